/- The tables: made by my program. -/
import Derived.Test.YtokhplohcachjaaGreatVeM
import Derived.Test.YtokhplohcachjaaGreatVeN
import Derived.KernelRfl
set_option linter.all false
set_option linter.unusedSectionVars false
namespace Ve
open Go Ve.Ab
abbrev iZ:V:=.lit (.int .i64 0)
def y1:TI:=⟨1,8,.lit .nilFunc,.scalar,false,none,false,[]⟩
def y2:TI:=⟨1,8,iZ,.scalar,false,some .i64,false,[]⟩
def y3:TI:=⟨1,8,iZ,.scalar,false,some .i64,false,[]⟩
def y4:TI:=⟨1,1,.lit (.bool false),.scalar,false,none,true,[]⟩
def y5:TI:=⟨1,1,.lit (.int .u8 0),.scalar,false,some .u8,false,[]⟩
def y6:TI:=⟨1,1,.lit (.int .u8 0),.scalar,false,some .u8,false,[]⟩
def y7:TI:=⟨4,24,.agg [iZ,iZ,.lit (.bool false),.lit (.int .u8 0)],.struct [(0,1),(1,1),(2,1),(3,1)],false,none,false,[2,3,4,6]⟩
def y8:TI:=⟨4,24,.agg [iZ,iZ,.lit (.bool false),.lit (.int .u8 0)],.struct [(0,1),(1,1),(2,1),(3,1)],false,none,false,[2,3,4,6]⟩
def y9:TI:=⟨1,16,.lit (.string ⟨#[]⟩),.scalar,false,none,false,[]⟩
def y10:TI:=⟨1,16,.lit (.string ⟨#[]⟩),.scalar,false,none,false,[]⟩
def y11:TI:=⟨1,16,.lit (.string ⟨#[]⟩),.scalar,false,none,false,[]⟩
def y12:TI:=⟨1,8,.lit (.int .u64 0),.scalar,false,some .u64,false,[]⟩
def y13:TI:=⟨2,24,.agg [.lit (.string ⟨#[]⟩),.lit (.int .u64 0)],.struct [(0,1),(1,1)],false,none,false,[9,12]⟩
def y22:TI:=⟨1,24,.own 3 [],.sl 50,false,none,false,[]⟩
def y23:TI:=⟨4,96,.agg [.own 3 [],.own 3 [],.own 3 [],.own 3 []],.arr 4 22,false,none,false,[]⟩
def y24:TI:=⟨4,32,.agg [iZ,iZ,iZ,iZ],.arr 4 3,true,none,false,[]⟩
def y25:TI:=⟨1,24,.own 17 [],.sl 46,false,none,false,[]⟩
def y26:TI:=⟨1,24,.own 4 [],.sl 90,false,none,false,[]⟩
def y28:TI:=⟨11,184,.agg [.own 3 [],.own 3 [],.own 3 [],.own 3 [],iZ,iZ,iZ,iZ,iZ,.own 17 [],.own 4 []],.struct [(0,4),(4,4),(8,1),(9,1),(10,1)],false,none,false,[23,24,3,25,26]⟩
def y30:TI:=⟨1,8,iZ,.scalar,false,some .i64,false,[]⟩
def y41:TI:=⟨1,8,.lit (.int .u64 0),.scalar,false,some .u64,false,[]⟩
def y42:TI:=⟨1,24,.own 4 [],.sl 52,false,none,false,[]⟩
def y43:TI:=⟨1,24,.own 3 [],.sl 125,false,none,false,[]⟩
def y44:TI:=⟨1,24,.own 3 [],.sl 106,false,none,false,[]⟩
def y46:TI:=⟨17,184,.agg [iZ,iZ,iZ,.own 4 [],iZ,iZ,iZ,iZ,iZ,iZ,.own 3 [],.own 3 [],iZ,iZ,iZ,iZ,iZ],.struct [(0,1),(1,1),(2,1),(3,1),(4,1),(5,1),(6,4),(10,1),(11,1),(12,1),(13,1),(14,1),(15,1),(16,1)],false,none,false,[3,3,3,42,3,3,24,43,44,3,3,3,3,3]⟩
def y50:TI:=⟨3,24,.agg [iZ,iZ,iZ],.struct [(0,1),(1,1),(2,1)],true,none,false,[3,3,3]⟩
def y52:TI:=⟨4,32,.agg [iZ,iZ,iZ,iZ],.struct [(0,1),(1,1),(2,1),(3,1)],true,none,false,[3,3,3,3]⟩
def y59:TI:=⟨1,24,.own 1 [],.sl 3,false,none,false,[]⟩
def y62:TI:=⟨2,16,.agg [iZ,iZ],.struct [(0,1),(1,1)],true,none,false,[3,3]⟩
def y73:TI:=⟨1,8,.lit (.pointer none),.scalar,false,none,false,[]⟩
def y75:TI:=⟨12,192,.agg [.own 3 [],.own 3 [],.own 3 [],.own 3 [],iZ,iZ,iZ,iZ,iZ,.own 17 [],.own 4 [],iZ],.struct [(0,11),(11,1)],false,none,false,[28,3]⟩
def y81:TI:=⟨4,96,.agg [.own 1 [],.own 1 [],.own 1 [],.own 1 []],.arr 4 59,false,none,false,[]⟩
def y83:TI:=⟨4,48,.agg [iZ,iZ,iZ,.own 4 []],.struct [(0,1),(1,1),(2,1),(3,1)],false,none,false,[3,3,3,42]⟩
def y84:TI:=⟨1,24,.own 4 [],.sl 83,false,none,false,[]⟩
def y85:TI:=⟨1,24,.own 2 [],.sl 62,false,none,false,[]⟩
def y87:TI:=⟨7,152,.agg [.own 1 [],.own 1 [],.own 1 [],.own 1 [],iZ,.own 4 [],.own 2 []],.struct [(0,4),(4,1),(5,1),(6,1)],false,none,false,[81,3,84,85]⟩
def y90:TI:=⟨4,32,.agg [iZ,iZ,iZ,iZ],.struct [(0,1),(1,1),(2,1),(3,1)],true,none,false,[3,3,3,3]⟩
def y98:TI:=⟨1,8,.lit (.pointer none),.scalar,false,none,false,[]⟩
def WY:TI:=⟨3,24,.agg [iZ,iZ,iZ],.struct [(0,1),(1,1),(2,1)],true,none,false,[3,3,3]⟩
def YG:TI:=⟨3,24,.agg [iZ,iZ,iZ],.struct [(0,1),(1,1),(2,1)],true,none,false,[3,3,3]⟩
def eJ:TI:=⟨1,8,.lit .nilFunc,.scalar,false,none,false,[]⟩
def eH:TI:=⟨1,8,.lit (.pointer none),.scalar,false,none,false,[]⟩
def eG:TI:=⟨1,8,.lit .nilFunc,.scalar,false,none,false,[]⟩
def eF:TI:=⟨1,8,.lit .nilFunc,.scalar,false,none,false,[]⟩
def eD:TI:=⟨1,8,.lit (.pointer none),.scalar,false,none,false,[]⟩
def eC:TI:=⟨1,8,.agg [.lit (.pointer none)],.struct [(0,1)],false,none,false,[138]⟩
def eB:TI:=⟨1,8,.lit .nilFunc,.scalar,false,none,false,[]⟩
def eA:TI:=⟨1,8,.lit .nilFunc,.scalar,false,none,false,[]⟩
def dZ:TI:=⟨1,8,.lit .nilFunc,.scalar,false,none,false,[]⟩
def dY:TI:=⟨1,8,.lit .nilFunc,.scalar,false,none,false,[]⟩
def dX:TI:=⟨1,16,.lit (.complex .f64 0 0),.scalar,false,none,false,[]⟩
def dW:TI:=⟨1,8,.lit (.float .f64 0),.scalar,false,none,false,[]⟩
def pY:List (Nat × TI):=[(1,y1),(2,y2),(3,y3),(4,y4),(5,y5),(6,y6),(7,y7),(8,y8),(9,y9),(10,y10),(11,y11),(12,y12),(13,y13),(22,y22),(23,y23),(24,y24),(25,y25),(26,y26),(28,y28),(30,y30),(41,y41),(42,y42),(43,y43),(44,y44),(46,y46),(50,y50),(52,y52),(59,y59),(62,y62),(73,y73),(75,y75),(81,y81),(83,y83),(84,y84),(85,y85),(87,y87),(90,y90),(98,y98),(106,WY),(125,YG),(126,eJ),(133,eH),(135,eG),(137,eF),(138,eD),(140,eC),(174,eB),(176,eA),(178,dZ),(196,dY),(205,dX),(206,dW)]
def lay:Lay:=lk pY
def c3:IR:=(S (R [z 2 (bx 28 0),z 4 (ab false)])
(S (R [z 10 (ld 28 2),z 11 (cl 15 #[(t 10)] #[28]),z 5 (al 28),⟨none,st 28 5 11,none,true⟩])
(S (R [z 13 (ld 28 5),z 14 (mv 1),o 15 (cl 16 #[(t 13),(t 14)] #[28,3]),z 12 (mv 15),z 16 (xt 12 0),z 17 (xt 12 1),z 6 (al 28),⟨none,st 28 6 16,none,true⟩,z 7 (av 17)])
(S (R [z 19 (ld 28 2),z 20 (mv 1),z 21 (cl 17 #[(t 19),(t 20)] #[28,3]),z 18 (mv 21),z 22 (xt 18 0),z 23 (xt 18 1),z 8 (al 28),⟨none,st 28 8 22,none,true⟩,z 9 (av 23)])
(S (S (R [z 24 (ld 28 6),z 25 (ld 28 8),z 26 (cl 18 #[(t 24),(t 25)] #[28,28]),z 27 (.unOp .not 4 (.tmp 26)),z 28 (mv 27),zF 29 (mv 7) 28,zF 30 (cl 19 #[(t 29)] #[30]) 28,zF 31 (mv 9) 28,zF 32 (bo .neq (t 30) (t 31)) 28,z 33 (.pick (.tmp 28) (.const (.bool true)) (.tmp 32))])
(.cond (t 33)
(S (R [z 4 (ab false)])
(.ret [4]))
.skip))
(S (R [z 34 (ld 28 6),z 35 (cl 20 #[(t 34)] #[28])])
(S (R [z 36 (ld 28 5),z 37 (ld 28 2),z 38 (cl 18 #[(t 36),(t 37)] #[28,28]),z 39 (mv 38),zT 40 (cl 21 #[] #[]) 39,z 41 (.pick (.tmp 39) (.tmp 40) (.const (.bool false))),z 4 (av 41)])
(.ret [4]))))))))
def g3:IFn:=⟨42,[.tmp 4],[4],c3,[],false,none⟩
def c4:IR:=(S (R [z 4 (ab false)])
(S (S (R [z 10 (cl 21 #[] #[]),z 11 (.unOp .not 4 (.tmp 10))])
(.cond (t 11)
(S (R [z 4 (ab false)])
(.ret [4]))
.skip))
(S (R [z 12 (mv 1),z 13 (bo .and (t 12) (n 1023)),z 14 (bo .add (n 1) (t 13)),z 5 (av 14)])
(S (R [z 15 (mv 0),z 16 (.binOp .shr 3 (.tmp 15) (.const (.int .u64 3)) 41),z 17 (bo .and (t 16) (n 7)),o 18 (cl 22 #[(n 0),(t 17)] #[3,3]),z 6 (al 28),⟨none,st 28 6 18,none,true⟩,z 7 (an 0)])
(S (S (R [z 19 (mv 0),z 20 (.convert 3 41 (.tmp 19)),z 21 (.binOp .rem 41 (.tmp 20) (.const (.int .u64 5)) 41)])
(.block 0 (S (R [z 25 (.binOp .eql 41 (.tmp 21) (.const (.int .u64 0)) 41),z 24 (av 25)])
(.cond (t 24)
(R [z 26 (mv 5),z 27 (.unOp .neg 3 (.tmp 26)),z 7 (av 27)])
(S (R [z 29 (.binOp .eql 41 (.tmp 21) (.const (.int .u64 1)) 41),z 28 (av 29)])
(.cond (t 28)
(R [z 30 (mv 5),z 31 (bo .add (n 1) (t 30)),z 7 (av 31)])
(S (R [z 33 (.binOp .eql 41 (.tmp 21) (.const (.int .u64 2)) 41),z 32 (av 33)])
(.cond (t 32)
(R [z 34 (mv 5),z 35 (.unOp .neg 3 (.tmp 34)),z 36 (fa 28 6 2),⟨none,st 3 36 35,none,true⟩])
(S (R [z 38 (.binOp .eql 41 (.tmp 21) (.const (.int .u64 3)) 41),z 37 (av 38)])
(.cond (t 37)
(R [z 39 (fa 28 6 3),z 40 (ld 25 39),o 41 (.indexAddr 25 (.tmp 40) (.const (.int .i64 1))),z 42 (fa 46 41 2),⟨none,.store 3 (.tmp 42) (.const (.int .i64 0)),none,true⟩])
(R [z 22 (fa 28 6 0),o 23 (.indexAddr 23 (.tmp 22) (.const (.int .i64 1))),⟨none,.store 22 (.tmp 23) (.const (.slice none 0 0)),none,true⟩])))))))))))
(S (R [z 44 (ld 28 6),z 45 (mv 7),z 46 (cl 16 #[(t 44),(t 45)] #[28,3]),z 43 (mv 46),z 47 (xt 43 0),z 48 (xt 43 1),z 8 (al 28),⟨none,st 28 8 47,none,true⟩,z 9 (av 48)])
(S (R [z 49 (ld 28 8),z 50 (.build 28 #[]),z 51 (cl 18 #[(t 49),(t 50)] #[28,28]),z 52 (mv 51),zT 53 (mv 9) 52,zT 54 (cl 19 #[(t 53)] #[30]) 52,zT 55 (bo .eql (t 54) (n 2300)) 52,z 56 (.pick (.tmp 52) (.tmp 55) (.const (.bool false))),z 4 (av 56)])
(.ret [4]))))))))
def g4:IFn:=⟨57,[.tmp 4],[4],c4,[],false,none⟩
def c5_1:IR:=(S (S (R [z 46 (mv 14),z 47 (bo .lss (t 46) (n 12))])
(.cond (t 47)
.skip
(.exit 0 [3,9,10,11,12,13])))
(S (.block 1 (S (R [z 51 (ld 28 12),z 52 (cl 16 #[(t 51),(n 1)] #[28,3]),z 50 (mv 52),z 53 (xt 50 0),z 54 (xt 50 1),z 15 (al 28),⟨none,st 28 15 53,none,true⟩,z 16 (av 54)])
(S (S (R [z 55 (mv 16),z 56 (cl 19 #[(t 55)] #[30]),z 57 (bo .neq (t 56) (n 0)),z 58 (mv 57),zF 59 (fa 28 15 3) 58,zF 60 (ld 25 59) 58,zF 61 (len 60 25) 58,zF 62 (bo .neq (t 61) (n 2)) 58,z 63 (.pick (.tmp 58) (.const (.bool true)) (.tmp 62))])
(.cond (t 63)
(S (R [z 8 (ab false)])
(.ret [8]))
.skip))
(R [z 64 (ld 28 15),⟨none,st 28 12 64,none,true⟩]))))
(R [z 48 (mv 14),z 49 (bo .add (t 48) (n 1)),z 14 (av 49)])))
def c5:IR:=(S (R [z 8 (ab false)])
(S (S (R [z 18 (cl 21 #[] #[]),z 19 (.unOp .not 4 (.tmp 18))])
(.cond (t 19)
(S (R [z 8 (ab false)])
(.ret [8]))
.skip))
(S (R [z 20 (mv 0),z 21 (bo .and (t 20) (n 3)),z 22 (mv 1),z 23 (bo .and (t 22) (n 3)),z 24 (mv 2),z 25 (bo .and (t 24) (n 3)),z 9 (av 21),z 10 (av 23),z 11 (av 25)])
(S (R [o 26 (cl 23 #[] #[]),z 12 (al 28),⟨none,st 28 12 26,none,true⟩])
(S (R [z 27 (.build 50 #[(0,(.const (.int .i64 1)))]),z 28 (.buildSlice 22 1 #[(0,(.tmp 27))]),z 29 (fa 28 12 0),o 30 (.indexAddr 23 (.tmp 29) (.const (.int .i64 2))),⟨none,st 22 30 28,none,true⟩])
(S (R [z 31 (fa 28 12 3),z 32 (ld 25 31),z 33 (mv 9),z 34 (mv 10),z 35 (.build 52 #[(0,(.const (.int .i64 2))),(2,(.tmp 34))]),z 36 (mv 3),z 37 (bo .and (t 36) (n 255)),z 38 (.build 52 #[(0,(.const (.int .i64 0))),(1,(.const (.int .i64 1))),(2,(.tmp 37))]),z 39 (mv 11),z 40 (.build 52 #[(0,(.const (.int .i64 3))),(1,(.const (.int .i64 1))),(2,(.tmp 39))]),z 41 (.buildSlice 42 3 #[(0,(.tmp 35)),(1,(.tmp 38)),(2,(.tmp 40))]),z 42 (.build 46 #[(0,(.const (.int .i64 5))),(1,(.tmp 33)),(2,(.const (.int .i64 3))),(3,(.tmp 41))]),o 43 (.indexAddr 25 (.tmp 32) (.const (.int .i64 1))),⟨none,st 46 43 42,none,true⟩])
(S (R [z 44 (ld 28 12),z 45 (cl 15 #[(t 44)] #[28]),z 13 (al 28),⟨none,st 28 13 45,none,true⟩])
(S (S (R [z 14 (an 0)])
(.block 0 (.loop [3,9,10,11,12,13,14] c5_1)))
(S (R [z 65 (fa 28 12 3),z 66 (ld 25 65),o 67 (.indexAddr 25 (.tmp 66) (.const (.int .i64 1))),z 68 (ld 46 67),z 17 (al 46),⟨none,st 46 17 68,none,true⟩])
(S (S (R [z 69 (fa 46 17 4),z 70 (ld 3 69),z 71 (bo .neq (t 70) (n 6)),z 72 (mv 71),zF 73 (fa 46 17 1) 72,zF 74 (ld 3 73) 72,zF 75 (mv 9) 72,zF 76 (mv 10) 72,zF 77 (bo .or (t 75) (t 76)) 72,zF 78 (bo .neq (t 74) (t 77)) 72,z 79 (.pick (.tmp 72) (.const (.bool true)) (.tmp 78))])
(.cond (t 79)
(S (R [z 8 (ab false)])
(.ret [8]))
.skip))
(S (S (R [z 80 (mv 11),z 81 (mv 9),z 82 (mv 10),z 83 (bo .or (t 81) (t 82)),z 84 (bo .neq (t 80) (t 83))])
(.cond (t 84)
(S (R [z 85 (fa 46 17 12),z 86 (ld 3 85),z 87 (bo .eql (t 86) (n 3)),z 88 (mv 87),zT 89 (fa 28 12 0) 88,zT 90 (ld 23 89) 88,zT 91 (fa 28 13 0) 88,zT 92 (ld 23 91) 88,zT 93 (cl 24 #[(t 90),(t 92)] #[23,23]) 88,z 94 (.pick (.tmp 88) (.tmp 93) (.const (.bool false))),z 95 (mv 94),zT 96 (fa 28 12 1) 95,zT 97 (ld 24 96) 95,zT 98 (fa 28 13 1) 95,zT 99 (ld 24 98) 95,zT 100 (.binOp .eql 24 (.tmp 97) (.tmp 99) 24) 95,z 101 (.pick (.tmp 95) (.tmp 100) (.const (.bool false))),z 8 (av 101)])
(.ret [8]))
.skip))
(S (R [z 102 (fa 46 17 12),z 103 (ld 3 102),z 104 (bo .eql (t 103) (n 1)),z 105 (mv 104),zT 106 (mv 11) 105,zT 107 (fa 28 12 0) 105,oT 108 (ia 23 107 106) 105,zT 109 (ld 22 108) 105,zT 110 (len 109 22) 105,zT 111 (bo .gtr (t 110) (n 0)) 105,z 112 (.pick (.tmp 105) (.tmp 111) (.const (.bool false))),z 113 (mv 112),zT 114 (mv 11) 113,zT 115 (fa 28 12 0) 113,oT 116 (ia 23 115 114) 113,zT 117 (ld 22 116) 113,oT 118 (.indexAddr 22 (.tmp 117) (.const (.int .i64 0))) 113,zT 119 (ld 50 118) 113,zT 120 (mv 3) 113,zT 121 (bo .and (t 120) (n 255)) 113,zT 122 (.build 50 #[(0,(.tmp 121)),(1,(.const (.int .i64 1)))]) 113,zT 123 (.binOp .eql 50 (.tmp 119) (.tmp 122) 50) 113,z 124 (.pick (.tmp 113) (.tmp 123) (.const (.bool false))),z 125 (mv 124),zT 126 (mv 11) 125,zT 127 (fa 28 12 1) 125,oT 128 (ia 24 127 126) 125,zT 129 (ld 3 128) 125,zT 130 (bo .eql (t 129) (n 1)) 125,z 131 (.pick (.tmp 125) (.tmp 130) (.const (.bool false))),z 8 (av 131)])
(.ret [8])))))))))))))
def g5:IFn:=⟨132,[.tmp 8],[4],c5,[],false,none⟩
def c6_1:IR:=(S (S (R [z 28 (mv 7),z 29 (bo .lss (t 28) (n 4))])
(.cond (t 29)
.skip
(.exit 0 [0,5,6])))
(S (.block 1 (S (R [z 33 (ld 28 5),z 34 (cl 16 #[(t 33),(n 0)] #[28,3]),z 32 (mv 34),z 35 (xt 32 0),z 36 (xt 32 1),z 8 (al 28),⟨none,st 28 8 35,none,true⟩,z 9 (av 36)])
(S (S (R [z 37 (mv 9),z 38 (cl 19 #[(t 37)] #[30]),z 39 (bo .neq (t 38) (n 0)),z 40 (mv 39),zF 41 (fa 28 8 3) 40,zF 42 (ld 25 41) 40,zF 43 (len 42 25) 40,zF 44 (bo .neq (t 43) (n 2)) 40,z 45 (.pick (.tmp 40) (.const (.bool true)) (.tmp 44))])
(.cond (t 45)
(S (R [z 4 (ab false)])
(.ret [4]))
.skip))
(R [z 46 (ld 28 8),⟨none,st 28 5 46,none,true⟩]))))
(R [z 30 (mv 7),z 31 (bo .add (t 30) (n 1)),z 7 (av 31)])))
def c6:IR:=(S (R [z 4 (ab false)])
(S (S (R [z 11 (cl 21 #[] #[]),z 12 (.unOp .not 4 (.tmp 11))])
(.cond (t 12)
(S (R [z 4 (ab false)])
(.ret [4]))
.skip))
(S (R [o 13 (cl 23 #[] #[]),z 5 (al 28),⟨none,st 28 5 13,none,true⟩])
(S (R [z 14 (fa 28 5 3),z 15 (ld 25 14),z 16 (mv 1),z 17 (bo .and (t 16) (n 255)),z 18 (.build 52 #[(0,(.const (.int .i64 0))),(2,(.tmp 17))]),z 19 (.build 52 #[(0,(.const (.int .i64 3)))]),z 20 (mv 0),z 21 (bo .and (t 20) (n 255)),z 22 (.build 52 #[(0,(.const (.int .i64 6))),(1,(.tmp 21))]),z 23 (.buildSlice 42 3 #[(0,(.tmp 18)),(1,(.tmp 19)),(2,(.tmp 22))]),o 24 (.indexAddr 25 (.tmp 15) (.const (.int .i64 0))),z 25 (fa 46 24 3),⟨none,st 42 25 23,none,true⟩])
(S (R [z 26 (ld 28 5),z 27 (cl 15 #[(t 26)] #[28]),z 6 (al 28),⟨none,st 28 6 27,none,true⟩])
(S (S (R [z 7 (an 0)])
(.block 0 (.loop [0,5,6,7] c6_1)))
(S (R [z 47 (fa 28 5 3),z 48 (ld 25 47),o 49 (.indexAddr 25 (.tmp 48) (.const (.int .i64 0))),z 50 (ld 46 49),z 10 (al 46),⟨none,st 46 10 50,none,true⟩])
(S (R [z 51 (fa 46 10 4),z 52 (ld 3 51),z 53 (bo .eql (t 52) (n 6)),z 54 (mv 53),zT 55 (fa 46 10 12) 54,zT 56 (ld 3 55) 54,zT 57 (bo .eql (t 56) (n 2)) 54,z 58 (.pick (.tmp 54) (.tmp 57) (.const (.bool false))),z 59 (mv 58),zT 60 (fa 46 10 13) 59,zT 61 (ld 3 60) 59,zT 62 (mv 0) 59,zT 63 (bo .and (t 62) (n 255)) 59,zT 64 (bo .eql (t 61) (t 63)) 59,z 65 (.pick (.tmp 59) (.tmp 64) (.const (.bool false))),z 66 (mv 65),zT 67 (fa 28 5 0) 66,zT 68 (ld 23 67) 66,zT 69 (fa 28 6 0) 66,zT 70 (ld 23 69) 66,zT 71 (cl 24 #[(t 68),(t 70)] #[23,23]) 66,z 72 (.pick (.tmp 66) (.tmp 71) (.const (.bool false))),z 73 (mv 72),zT 74 (fa 28 5 1) 73,zT 75 (ld 24 74) 73,zT 76 (fa 28 6 1) 73,zT 77 (ld 24 76) 73,zT 78 (.binOp .eql 24 (.tmp 75) (.tmp 77) 24) 73,z 79 (.pick (.tmp 73) (.tmp 78) (.const (.bool false))),z 4 (av 79)])
(.ret [4])))))))))
def g6:IFn:=⟨80,[.tmp 4],[4],c6,[],false,none⟩
def kT:IR:=D [z 22 (fa 28 5 3),z 23 (ld 25 22),z 24 (len 23 25),z 25 (fa 28 2 3),z 26 (ld 25 25),z 27 (len 26 25),z 28 (bo .neq (t 24) (t 27)),z 29 (mv 28),zF 30 (fa 28 5 4) 29,zF 31 (ld 26 30) 29,zF 32 (len 31 26) 29,zF 33 (fa 28 2 4) 29,zF 34 (ld 26 33) 29,zF 35 (len 34 26) 29,zF 36 (bo .lss (t 32) (t 35)) 29,z 37 (.pick (.tmp 29) (.const (.bool true)) (.tmp 36)),z 38 (mv 37),zF 39 (fa 28 5 4) 38,zF 40 (ld 26 39) 38,zF 41 (len 40 26) 38,zF 42 (fa 28 2 4) 38,zF 43 (ld 26 42) 38,zF 44 (len 43 26) 38,zF 45 (bo .add (t 44) (n 1)) 38,zF 46 (bo .gtr (t 41) (t 45)) 38,z 47 (.pick (.tmp 38) (.const (.bool true)) (.tmp 46)),z 48 (mv 47),zF 49 (fa 28 5 4) 48,zF 50 (ld 26 49) 48,zF 51 (fa 28 2 4) 48,zF 52 (ld 26 51) 48,zF 53 (len 52 26) 48,zF 54 (.slice 26 (.tmp 50) none (some (.tmp 53)) none) 48,zF 55 (fa 28 2 4) 48,zF 56 (ld 26 55) 48,zF 57 (cl 25 #[(t 54),(t 56)] #[26,26]) 48,zF 58 (.unOp .not 4 (.tmp 57)) 48,z 59 (.pick (.tmp 48) (.const (.bool true)) (.tmp 58))] [[],[0],[1],[],[3],[4],[2,5],[6],[7],[8,7],[9,7],[7],[11,7],[12,7],[10,13,7],[7,14],[15,7],[16],[17,16],[18,16],[16],[20,16],[21,16],[22,16],[19,23,16],[16,24],[25,16],[26],[27,26],[26],[29,26],[30,26],[28,31,26],[26],[33,26],[32,34,26,26],[35,26],[26,36]]
def kS:IR:=D [z 67 (mv 7),z 68 (mv 1),z 69 (bo .neq (t 67) (t 68)),z 70 (mv 69),zT 71 (fa 28 5 3) 70,zT 72 (ld 25 71) 70,zT 73 (mv 7) 70,oT 74 (ia 25 72 73) 70,zT 75 (ld 46 74) 70,zT 76 (fa 28 2 3) 70,zT 77 (ld 25 76) 70,zT 78 (mv 7) 70,oT 79 (ia 25 77 78) 70,zT 80 (ld 46 79) 70,zT 81 (cl 26 #[(t 75),(t 80)] #[46,46]) 70,zT 82 (.unOp .not 4 (.tmp 81)) 70,z 83 (.pick (.tmp 70) (.tmp 82) (.const (.bool false)))] [[],[],[0,1],[2],[3],[4,3],[3],[5,6,3],[7,3],[3],[9,3],[3],[10,11,3],[12,3],[8,13,3,3],[14,3],[3,15]]
def Uk:IR:=(S (S (R [z 60 (mv 7),z 61 (fa 28 2 3),z 62 (ld 25 61),z 63 (len 62 25),z 64 (bo .lss (t 60) (t 63))])
(.cond (t 64)
.skip
(.exit 0 [2,5])))
(S (.block 1 (S kS
(.cond (t 83)
(S (R [z 4 (ab false)])
(.ret [4]))
.skip)))
(R [z 65 (mv 7),z 66 (bo .add (t 65) (n 1)),z 7 (av 66)])))
def c7:IR:=(S (R [z 2 (bx 28 0),z 4 (ab false)])
(S (S (R [z 8 (cl 21 #[] #[]),z 9 (.unOp .not 4 (.tmp 8))])
(.cond (t 9)
(S (R [z 4 (ab false)])
(.ret [4]))
.skip))
(S (R [z 11 (ld 28 2),z 12 (mv 1),z 13 (cl 16 #[(t 11),(t 12)] #[28,3]),z 10 (mv 13),z 14 (xt 10 0),z 15 (xt 10 1),z 5 (al 28),⟨none,st 28 5 14,none,true⟩,z 6 (av 15)])
(S (S (R [z 16 (mv 6),z 17 (cl 19 #[(t 16)] #[30]),z 18 (bo .neq (t 17) (n 0))])
(.cond (t 18)
(S (R [z 19 (ld 28 5),z 20 (.build 28 #[]),z 21 (cl 18 #[(t 19),(t 20)] #[28,28]),z 4 (av 21)])
(.ret [4]))
.skip))
(S (S kT
(.cond (t 59)
(S (R [z 4 (ab false)])
(.ret [4]))
.skip))
(S (S (R [z 7 (an 0)])
(.block 0 (.loop [1,2,5,7] Uk)))
(S (R [z 84 (fa 28 5 2),z 85 (ld 3 84),z 86 (fa 28 2 2),z 87 (ld 3 86),z 88 (bo .eql (t 85) (t 87)),z 89 (mv 88),zT 90 (ld 28 5) 89,zT 91 (cl 27 #[(t 90)] #[28]) 89,z 92 (.pick (.tmp 89) (.tmp 91) (.const (.bool false))),z 4 (av 92)])
(.ret [4]))))))))
def g7:IFn:=⟨93,[.tmp 4],[4],c7,[],false,none⟩
def kR:IR:=D [z 48 (fa 28 3 3),z 49 (ld 25 48),z 50 (mv 1),o 51 (ia 25 49 50),z 52 (ld 46 51),z 53 (fa 28 8 3),z 54 (ld 25 53),z 55 (mv 1),o 56 (ia 25 54 55),z 57 (ld 46 56),z 10 (al 46),z 11 (al 46),⟨none,st 46 10 52,none,true⟩,⟨none,st 46 11 57,none,true⟩] [[],[0],[],[1,2],[3],[],[5],[],[6,7],[8],[],[],[10,4,0,1,2,3,4,10,11],[11,9,12,0,1,2,3,4,5,6,7,8,9,10,11,12]]
def Uj:IR:=(S (S (R [z 14 (mv 7),z 15 (mv 2),z 16 (bo .and (t 15) (n 31)),z 17 (bo .lss (t 14) (t 16))])
(.cond (t 17)
.skip
(.exit 0 [])))
(S (.block 1 (S (R [z 21 (ld 28 3),z 22 (mv 1),z 23 (cl 16 #[(t 21),(t 22)] #[28,3]),z 20 (mv 23),z 24 (xt 20 0),z 25 (xt 20 1),z 8 (al 28),⟨none,st 28 8 24,none,true⟩,z 9 (av 25)])
(S (S (R [z 26 (mv 9),z 27 (cl 19 #[(t 26)] #[30]),z 28 (bo .neq (t 27) (n 0))])
(.cond (t 28)
(S (R [z 29 (ld 28 8),z 30 (.build 28 #[]),z 31 (cl 18 #[(t 29),(t 30)] #[28,28]),z 6 (av 31)])
(.ret [6]))
.skip))
(S (S (R [z 32 (mv 1),z 33 (bo .lss (t 32) (n 0)),z 34 (mv 33),zF 35 (mv 1) 34,zF 36 (fa 28 8 3) 34,zF 37 (ld 25 36) 34,zF 38 (len 37 25) 34,zF 39 (bo .geq (t 35) (t 38)) 34,z 40 (.pick (.tmp 34) (.const (.bool true)) (.tmp 39)),z 41 (mv 40),zF 42 (mv 1) 41,zF 43 (fa 28 3 3) 41,zF 44 (ld 25 43) 41,zF 45 (len 44 25) 41,zF 46 (bo .geq (t 42) (t 45)) 41,z 47 (.pick (.tmp 41) (.const (.bool true)) (.tmp 46))])
(.cond (t 47)
(S (R [z 6 (ab false)])
(.ret [6]))
.skip))
(S kR
(S (S (R [z 58 (fa 46 10 1),z 59 (ld 3 58),z 60 (fa 46 11 1),z 61 (ld 3 60),z 62 (bo .or (t 59) (t 61)),z 63 (fa 46 11 1),z 64 (ld 3 63),z 65 (bo .neq (t 62) (t 64)),z 66 (mv 65),zF 67 (fa 46 11 1) 66,zF 68 (ld 3 67) 66,zF 69 (fa 46 11 2) 66,zF 70 (ld 3 69) 66,zF 71 (bo .or (t 68) (t 70)) 66,zF 72 (fa 46 11 2) 66,zF 73 (ld 3 72) 66,zF 74 (bo .neq (t 71) (t 73)) 66,z 75 (.pick (.tmp 66) (.const (.bool true)) (.tmp 74)),z 76 (mv 75),zF 77 (fa 46 10 2) 76,zF 78 (ld 3 77) 76,zF 79 (fa 46 11 2) 76,zF 80 (ld 3 79) 76,zF 81 (bo .neq (t 78) (t 80)) 76,z 82 (.pick (.tmp 76) (.const (.bool true)) (.tmp 81))])
(.cond (t 82)
(S (R [z 6 (ab false)])
(.ret [6]))
.skip))
(R [z 83 (ld 28 8),⟨none,st 28 3 83,none,true⟩])))))))
(R [z 18 (mv 7),z 19 (bo .add (t 18) (n 1)),z 7 (av 19)])))
def c8:IR:=(S (R [o 3 (bx 28 0),z 6 (ab false)])
(S (S (R [z 12 (cl 21 #[] #[]),z 13 (.unOp .not 4 (.tmp 12))])
(.cond (t 13)
(S (R [z 6 (ab false)])
(.ret [6]))
.skip))
(S (S (R [z 7 (an 0)])
(.block 0 (.loop [1,2,3,7] Uj)))
(S (R [z 6 (ab true)])
(.ret [6])))))
def g8:IFn:=⟨84,[.tmp 6],[4],c8,[],false,none⟩
def c9_1:IR:=(S (S (R [z 19 (mv 6),z 20 (mv 4),z 21 (bo .leq (t 19) (t 20))])
(.cond (t 21)
.skip
(.exit 0 [3,4,5])))
(S (.block 1 (R [z 24 (mv 5),z 25 (mv 6),z 26 (.buildSlice 59 4 #[(0,(.const (.int .i64 0))),(1,(.const (.int .i64 1))),(2,(.const (.int .i64 3))),(3,(.const (.int .i64 0)))]),z 27 (mv 6),o 28 (ia 59 26 27),z 29 (ld 3 28),z 30 (.build 52 #[(0,(.const (.int .i64 2))),(1,(.tmp 25)),(2,(.tmp 29))]),z 31 (.buildSlice 42 1 #[(0,(.tmp 30))]),z 32 (.call { callee:=(.builtin .append),args:=#[(.tmp 24),(.tmp 31)],argTypes:=#[42,42] }),z 5 (av 32)]))
(R [z 22 (mv 6),z 23 (bo .add (t 22) (n 1)),z 6 (av 23)])))
def c9_2:IR:=(S (S (R [z 40 (mv 8),z 41 (mv 4),z 42 (bo .mul (n 2) (t 41)),z 43 (bo .add (t 42) (n 5)),z 44 (bo .lss (t 40) (t 43))])
(.cond (t 44)
.skip
(.exit 2 [3,4,7])))
(S (.block 3 (S (R [z 48 (ld 28 3),z 49 (cl 16 #[(t 48),(n 0)] #[28,3]),z 47 (mv 49),z 50 (xt 47 0),z 51 (xt 47 1),z 9 (al 28),⟨none,st 28 9 50,none,true⟩,z 10 (av 51)])
(S (S (R [z 52 (mv 10),z 53 (cl 19 #[(t 52)] #[30]),z 54 (bo .neq (t 53) (n 0)),z 55 (mv 54),zF 56 (fa 28 9 3) 55,zF 57 (ld 25 56) 55,zF 58 (len 57 25) 55,zF 59 (bo .neq (t 58) (n 2)) 55,z 60 (.pick (.tmp 55) (.const (.bool true)) (.tmp 59))])
(.cond (t 60)
(S (R [z 2 (ab false)])
(.ret [2]))
.skip))
(R [z 61 (ld 28 9),⟨none,st 28 3 61,none,true⟩]))))
(R [z 45 (mv 8),z 46 (bo .add (t 45) (n 1)),z 8 (av 46)])))
def c9:IR:=(S (R [z 2 (ab false)])
(S (S (R [z 14 (cl 21 #[] #[]),z 15 (.unOp .not 4 (.tmp 14))])
(.cond (t 15)
(S (R [z 2 (ab false)])
(.ret [2]))
.skip))
(S (R [o 16 (cl 23 #[] #[]),z 3 (al 28),⟨none,st 28 3 16,none,true⟩])
(S (R [z 17 (mv 0),z 18 (bo .and (t 17) (n 3)),z 4 (av 18)])
(S (R [z 5 (.assign (.const (.slice none 0 0)))])
(S (S (R [z 6 (an 0)])
(.block 0 (.loop [3,4,5,6] c9_1)))
(S (R [z 33 (fa 28 3 3),z 34 (ld 25 33),z 35 (mv 5),o 36 (.indexAddr 25 (.tmp 34) (.const (.int .i64 0))),z 37 (fa 46 36 3),⟨none,st 42 37 35,none,true⟩])
(S (R [z 38 (ld 28 3),z 39 (cl 15 #[(t 38)] #[28]),z 7 (al 28),⟨none,st 28 7 39,none,true⟩])
(S (S (R [z 8 (an 0)])
(.block 2 (.loop [3,4,7,8] c9_2)))
(S (R [z 62 (.buildSlice 59 4 #[(0,(.const (.int .i64 0))),(1,(.const (.int .i64 1))),(2,(.const (.int .i64 3))),(3,(.const (.int .i64 3)))]),z 63 (mv 4),o 64 (ia 59 62 63),z 65 (ld 3 64),z 11 (av 65)])
(S (R [z 67 (ld 28 3),z 68 (cl 17 #[(t 67),(n 0)] #[28,3]),z 66 (mv 68),z 69 (xt 66 0),z 70 (xt 66 1),z 12 (al 28),⟨none,st 28 12 69,none,true⟩,z 13 (av 70)])
(S (R [z 71 (fa 28 3 3),z 72 (ld 25 71),o 73 (.indexAddr 25 (.tmp 72) (.const (.int .i64 0))),z 74 (fa 46 73 4),z 75 (ld 3 74),z 76 (bo .eql (t 75) (n 6)),z 77 (mv 76),zT 78 (fa 28 3 3) 77,zT 79 (ld 25 78) 77,oT 80 (.indexAddr 25 (.tmp 79) (.const (.int .i64 0))) 77,zT 81 (fa 46 80 12) 77,zT 82 (ld 3 81) 77,zT 83 (bo .eql (t 82) (n 1)) 77,z 84 (.pick (.tmp 77) (.tmp 83) (.const (.bool false))),z 85 (mv 84),zT 86 (fa 28 3 3) 85,zT 87 (ld 25 86) 85,oT 88 (.indexAddr 25 (.tmp 87) (.const (.int .i64 0))) 85,zT 89 (fa 46 88 1) 85,zT 90 (ld 3 89) 85,zT 91 (mv 11) 85,zT 92 (bo .eql (t 90) (t 91)) 85,z 93 (.pick (.tmp 85) (.tmp 92) (.const (.bool false))),z 94 (mv 93),zT 95 (fa 28 3 0) 94,zT 96 (ld 23 95) 94,zT 97 (fa 28 7 0) 94,zT 98 (ld 23 97) 94,zT 99 (cl 24 #[(t 96),(t 98)] #[23,23]) 94,z 100 (.pick (.tmp 94) (.tmp 99) (.const (.bool false))),z 101 (mv 100),zT 102 (fa 28 3 1) 101,zT 103 (ld 24 102) 101,zT 104 (fa 28 7 1) 101,zT 105 (ld 24 104) 101,zT 106 (.binOp .eql 24 (.tmp 103) (.tmp 105) 24) 101,z 107 (.pick (.tmp 101) (.tmp 106) (.const (.bool false))),z 108 (mv 107),zT 109 (mv 13) 108,zT 110 (bo .eql (t 109) (n 0)) 108,z 111 (.pick (.tmp 108) (.tmp 110) (.const (.bool false))),z 112 (mv 111),zT 113 (ld 28 12) 112,zT 114 (ld 28 3) 112,zT 115 (cl 18 #[(t 113),(t 114)] #[28,28]) 112,z 116 (.pick (.tmp 112) (.tmp 115) (.const (.bool false))),z 117 (mv 116),zT 118 (cl 22 #[(n 0),(n 0)] #[3,3]) 117,zT 119 (.field 28 (.tmp 118) 3) 117,zT 120 (len 119 25) 117,zT 121 (bo .eql (t 120) (n 2)) 117,z 122 (.pick (.tmp 117) (.tmp 121) (.const (.bool false))),z 2 (av 122)])
(.ret [2])))))))))))))
def g9:IFn:=⟨123,[.tmp 2],[4],c9,[],false,none⟩
def c10:IR:=(S (R [z 2 (bx 28 0),z 3 (bx 62 1),z 4 (ab false)])
(S (R [z 16 (ld 28 2),z 17 (cl 15 #[(t 16)] #[28]),z 5 (al 28),⟨none,st 28 5 17,none,true⟩])
(S (R [z 19 (ld 28 5),z 20 (ld 62 3),z 21 (cl 28 #[(t 19),(t 20)] #[28,62]),z 18 (mv 21),z 22 (xt 18 0),z 23 (xt 18 1),z 24 (xt 18 2),z 6 (av 22),z 7 (av 23),z 8 (av 24)])
(S (R [z 26 (ld 28 2),z 27 (ld 62 3),z 28 (cl 29 #[(t 26),(t 27)] #[28,62]),z 25 (mv 28),z 29 (xt 25 0),z 30 (xt 25 1),z 31 (xt 25 2),z 9 (av 29),z 10 (av 30),z 11 (av 31)])
(S (R [z 33 (ld 28 5),z 34 (ld 62 3),o 35 (cl 30 #[(t 33),(t 34)] #[28,62]),z 32 (mv 35),z 36 (xt 32 0),z 37 (xt 32 1),z 12 (al 28),⟨none,st 28 12 36,none,true⟩,z 13 (av 37)])
(S (R [z 39 (ld 28 2),z 40 (ld 62 3),z 41 (cl 31 #[(t 39),(t 40)] #[28,62]),z 38 (mv 41),z 42 (xt 38 0),z 43 (xt 38 1),z 14 (al 28),⟨none,st 28 14 42,none,true⟩,z 15 (av 43)])
(S (S (R [z 44 (mv 6),z 45 (mv 9),z 46 (bo .neq (t 44) (t 45)),z 47 (mv 46),zF 48 (mv 7) 47,zF 49 (mv 10) 47,zF 50 (.binOp .neq 4 (.tmp 48) (.tmp 49) 4) 47,z 51 (.pick (.tmp 47) (.const (.bool true)) (.tmp 50)),z 52 (mv 51),zF 53 (mv 8) 52,zF 54 (cl 19 #[(t 53)] #[30]) 52,zF 55 (mv 11) 52,zF 56 (bo .neq (t 54) (t 55)) 52,z 57 (.pick (.tmp 52) (.const (.bool true)) (.tmp 56)),z 58 (mv 57),zF 59 (ld 28 12) 58,zF 60 (ld 28 14) 58,zF 61 (cl 18 #[(t 59),(t 60)] #[28,28]) 58,zF 62 (.unOp .not 4 (.tmp 61)) 58,z 63 (.pick (.tmp 58) (.const (.bool true)) (.tmp 62)),z 64 (mv 63),zF 65 (mv 13) 64,zF 66 (cl 19 #[(t 65)] #[30]) 64,zF 67 (mv 15) 64,zF 68 (bo .neq (t 66) (t 67)) 64,z 69 (.pick (.tmp 64) (.const (.bool true)) (.tmp 68))])
(.cond (t 69)
(S (R [z 4 (ab false)])
(.ret [4]))
.skip))
(S (R [z 70 (ld 28 12),z 71 (cl 20 #[(t 70)] #[28])])
(S (R [z 72 (ld 28 5),z 73 (ld 28 2),z 74 (cl 18 #[(t 72),(t 73)] #[28,28]),z 75 (mv 74),zT 76 (cl 32 #[] #[]) 75,z 77 (.pick (.tmp 75) (.tmp 76) (.const (.bool false))),z 4 (av 77)])
(.ret [4]))))))))))
def g10:IFn:=⟨78,[.tmp 4],[4],c10,[],false,none⟩
def c11:IR:=(S (R [z 4 (ab false)])
(S (S (R [z 13 (cl 32 #[] #[]),z 14 (.unOp .not 4 (.tmp 13))])
(.cond (t 14)
(S (R [z 4 (ab false)])
(.ret [4]))
.skip))
(S (R [z 15 (mv 1),z 16 (bo .and (t 15) (n 1023)),z 17 (bo .add (n 1) (t 16)),z 5 (av 17)])
(S (R [o 18 (cl 33 #[] #[]),z 19 (mv 0),z 20 (bo .and (t 19) (n 3)),z 21 (.build 62 #[(0,(.tmp 20))]),z 6 (al 28),z 7 (al 62),⟨none,st 28 6 18,none,true⟩,⟨none,st 62 7 21,none,true⟩])
(S (S (R [z 22 (mv 0),z 23 (.convert 3 41 (.tmp 22)),z 24 (.binOp .shr 41 (.tmp 23) (.const (.int .u64 2)) 41),z 25 (.binOp .rem 41 (.tmp 24) (.const (.int .u64 4)) 41)])
(.block 0 (S (R [z 33 (.binOp .eql 41 (.tmp 25) (.const (.int .u64 0)) 41),z 32 (av 33)])
(.cond (t 32)
(R [z 34 (mv 5),z 35 (.unOp .neg 3 (.tmp 34)),z 36 (mv 5),z 37 (bo .add (n 3) (t 36)),z 38 (.buildSlice 59 2 #[(0,(.tmp 35)),(1,(.tmp 37))]),z 39 (mv 0),z 40 (bo .and (t 39) (n 1)),o 41 (ia 59 38 40),z 42 (ld 3 41),z 43 (fa 62 7 0),⟨none,st 3 43 42,none,true⟩])
(S (R [z 45 (.binOp .eql 41 (.tmp 25) (.const (.int .u64 1)) 41),z 44 (av 45)])
(.cond (t 44)
(R [z 46 (mv 5),z 47 (.unOp .neg 3 (.tmp 46)),z 48 (mv 5),z 49 (bo .add (n 255) (t 48)),z 50 (.buildSlice 59 2 #[(0,(.tmp 47)),(1,(.tmp 49))]),z 51 (mv 0),z 52 (bo .and (t 51) (n 1)),o 53 (ia 59 50 52),z 54 (ld 3 53),z 55 (fa 62 7 1),⟨none,st 3 55 54,none,true⟩])
(S (R [z 57 (.binOp .eql 41 (.tmp 25) (.const (.int .u64 2)) 41),z 56 (av 57)])
(.cond (t 56)
(R [z 58 (mv 5),z 59 (.unOp .neg 3 (.tmp 58)),z 60 (fa 28 6 2),⟨none,st 3 60 59,none,true⟩])
(R [z 26 (fa 28 6 3),z 27 (ld 25 26),z 28 (mv 5),z 29 (.unOp .neg 3 (.tmp 28)),o 30 (.indexAddr 25 (.tmp 27) (.const (.int .i64 0))),z 31 (fa 46 30 11),⟨none,st 3 31 29,none,true⟩])))))))))
(S (R [z 62 (ld 28 6),z 63 (ld 62 7),z 64 (cl 28 #[(t 62),(t 63)] #[28,62]),z 61 (mv 64),z 65 (xt 61 0),z 66 (xt 61 1),z 67 (xt 61 2),z 8 (av 65),z 9 (av 66),z 10 (av 67)])
(S (R [z 69 (ld 28 6),z 70 (ld 62 7),z 71 (cl 30 #[(t 69),(t 70)] #[28,62]),z 68 (mv 71),z 72 (xt 68 0),z 73 (xt 68 1),z 11 (al 28),⟨none,st 28 11 72,none,true⟩,z 12 (av 73)])
(S (R [z 74 (mv 9),z 75 (.unOp .not 4 (.tmp 74)),z 76 (mv 75),zT 77 (mv 10) 76,zT 78 (cl 19 #[(t 77)] #[30]) 76,zT 79 (bo .eql (t 78) (n 2400)) 76,z 80 (.pick (.tmp 76) (.tmp 79) (.const (.bool false))),z 81 (mv 80),zT 82 (ld 28 11) 81,zT 83 (.build 28 #[]) 81,zT 84 (cl 18 #[(t 82),(t 83)] #[28,28]) 81,z 85 (.pick (.tmp 81) (.tmp 84) (.const (.bool false))),z 86 (mv 85),zT 87 (mv 12) 86,zT 88 (cl 19 #[(t 87)] #[30]) 86,zT 89 (bo .eql (t 88) (n 2400)) 86,z 90 (.pick (.tmp 86) (.tmp 89) (.const (.bool false))),z 4 (av 90)])
(.ret [4])))))))))
def g11:IFn:=⟨91,[.tmp 4],[4],c11,[],false,none⟩
def zC:IR:=(S (S (R [z 23 (mv 9),z 24 (fa 28 3 3),z 25 (ld 25 24),z 26 (len 25 25),z 27 (bo .lss (t 23) (t 26))])
(.cond (t 27)
.skip
(.exit 0 [2,3,7,8])))
(S (.block 1 (S (R [z 30 (fa 28 3 3),z 31 (ld 25 30),z 32 (mv 9),o 33 (ia 25 31 32),z 34 (fa 46 33 1),z 35 (ld 3 34),z 36 (mv 7),z 37 (bo .eql (t 35) (t 36)),z 38 (mv 37),zT 39 (fa 28 3 3) 38,zT 40 (ld 25 39) 38,zT 41 (mv 9) 38,oT 42 (ia 25 40 41) 38,zT 43 (fa 46 42 4) 38,zT 44 (ld 3 43) 38,zT 45 (bo .neq (t 44) (n 6)) 38,z 46 (.pick (.tmp 38) (.tmp 45) (.const (.bool false)))])
(.cond (t 46)
(R [z 47 (mv 8),z 48 (bo .add (t 47) (n 1)),z 8 (av 48)])
.skip)))
(R [z 28 (mv 9),z 29 (bo .add (t 28) (n 1)),z 9 (av 29)])))
def zB:IR:=(S (S (R [z 49 (mv 11),z 50 (mv 8),z 51 (bo .lss (t 49) (t 50)),z 52 (mv 51),zT 53 (mv 11) 52,zT 54 (bo .lss (t 53) (n 4)) 52,z 55 (.pick (.tmp 52) (.tmp 54) (.const (.bool false)))])
(.cond (t 55)
.skip
(.exit 2 [2,3,7,8,10])))
(S (.block 3 (S (R [z 59 (ld 28 3),z 60 (mv 7),z 61 (mv 2),z 62 (bo .and (t 61) (n 127)),z 63 (mv 11),z 64 (bo .add (t 62) (t 63)),z 65 (.build 62 #[(0,(.tmp 60)),(1,(.tmp 64))]),z 66 (cl 28 #[(t 59),(t 65)] #[28,62]),z 58 (mv 66),z 67 (xt 58 0),z 68 (xt 58 1),z 69 (xt 58 2),z 12 (av 67),z 13 (av 68),z 14 (av 69)])
(S (S (R [z 70 (mv 14),z 71 (cl 19 #[(t 70)] #[30]),z 72 (bo .neq (t 71) (n 0))])
(.cond (t 72)
(S (R [z 73 (ld 28 3),z 74 (cl 27 #[(t 73)] #[28]),z 75 (.unOp .not 4 (.tmp 74)),z 6 (av 75)])
(.ret [6]))
.skip))
(S (S (R [z 76 (mv 13),z 77 (.unOp .not 4 (.tmp 76)),z 78 (mv 77),zF 79 (mv 12) 78,zF 80 (bo .lss (t 79) (n 0)) 78,z 81 (.pick (.tmp 78) (.const (.bool true)) (.tmp 80)),z 82 (mv 81),zF 83 (mv 12) 82,zF 84 (fa 28 3 3) 82,zF 85 (ld 25 84) 82,zF 86 (len 85 25) 82,zF 87 (bo .geq (t 83) (t 86)) 82,z 88 (.pick (.tmp 82) (.const (.bool true)) (.tmp 87)),z 89 (mv 88),zF 90 (mv 12) 89,zF 91 (bo .geq (t 90) (n 4)) 89,z 92 (.pick (.tmp 89) (.const (.bool true)) (.tmp 91)),z 93 (mv 92),zF 94 (fa 28 3 3) 93,zF 95 (ld 25 94) 93,zF 96 (mv 12) 93,oF 97 (ia 25 95 96) 93,zF 98 (fa 46 97 1) 93,zF 99 (ld 3 98) 93,zF 100 (mv 7) 93,zF 101 (bo .neq (t 99) (t 100)) 93,z 102 (.pick (.tmp 93) (.const (.bool true)) (.tmp 101)),z 103 (mv 102),zF 104 (fa 28 3 3) 103,zF 105 (ld 25 104) 103,zF 106 (mv 12) 103,oF 107 (ia 25 105 106) 103,zF 108 (fa 46 107 4) 103,zF 109 (ld 3 108) 103,zF 110 (bo .eql (t 109) (n 6)) 103,z 111 (.pick (.tmp 103) (.const (.bool true)) (.tmp 110))])
(.cond (t 111)
(S (R [z 6 (ab false)])
(.ret [6]))
.skip))
(R [z 112 (mv 12),o 113 (ia 24 10 112),z 114 (ld 3 113),z 115 (bo .add (t 114) (n 1)),o 116 (ia 24 10 112),⟨none,st 3 116 115,none,true⟩])))))
(R [z 56 (mv 11),z 57 (bo .add (t 56) (n 1)),z 11 (av 57)])))
def yZ:IR:=(S (S (R [z 117 (mv 15),z 118 (bo .lss (t 117) (n 4))])
(.cond (t 118)
.skip
(.exit 4 [2,3,7,8])))
(S (.block 5 (S (R [z 121 (mv 15),o 122 (ia 24 10 121),z 123 (ld 3 122),z 124 (bo .gtr (t 123) (n 1))])
(.cond (t 124)
(S (R [z 6 (ab false)])
(.ret [6]))
.skip)))
(R [z 119 (mv 15),z 120 (bo .add (t 119) (n 1)),z 15 (av 120)])))
def c12:IR:=(S (R [z 3 (bx 28 0),z 6 (ab false)])
(S (S (R [z 19 (cl 32 #[] #[]),z 20 (.unOp .not 4 (.tmp 19))])
(.cond (t 20)
(S (R [z 6 (ab false)])
(.ret [6]))
.skip))
(S (R [z 21 (mv 1),z 22 (bo .and (t 21) (n 3)),z 7 (av 22)])
(S (R [z 8 (an 0)])
(S (S (R [z 9 (an 0)])
(.block 0 (.loop [2,3,7,8,9] zC)))
(S (R [z 10 (al 24)])
(S (S (R [z 11 (an 0)])
(.block 2 (.loop [2,3,7,8,10,11] zB)))
(S (S (R [z 15 (an 0)])
(.block 4 (.loop [2,3,7,8,10,15] yZ)))
(S (R [z 126 (ld 28 3),z 127 (mv 7),z 128 (mv 2),z 129 (bo .and (t 128) (n 127)),z 130 (.build 62 #[(0,(.tmp 127)),(1,(.tmp 129))]),z 131 (cl 28 #[(t 126),(t 130)] #[28,62]),z 125 (mv 131),z 132 (xt 125 0),z 133 (xt 125 1),z 134 (xt 125 2),z 16 (av 132),z 17 (av 133),z 18 (av 134)])
(S (R [z 135 (mv 17),z 136 (mv 8),z 137 (bo .gtr (t 136) (n 0)),z 138 (mv 137),zT 139 (mv 18) 138,zT 140 (cl 19 #[(t 139)] #[30]) 138,zT 141 (bo .eql (t 140) (n 0)) 138,z 142 (.pick (.tmp 138) (.tmp 141) (.const (.bool false))),z 143 (.binOp .eql 4 (.tmp 135) (.tmp 142) 4),z 6 (av 143)])
(.ret [6])))))))))))
def g12:IFn:=⟨144,[.tmp 6],[4],c12,[],false,none⟩
def c13:IR:=(S (R [z 2 (bx 28 0),z 3 (bx 62 1),z 4 (ab false)])
(S (S (R [z 12 (cl 32 #[] #[]),z 13 (.unOp .not 4 (.tmp 12))])
(.cond (t 13)
(S (R [z 4 (ab false)])
(.ret [4]))
.skip))
(S (R [z 15 (ld 28 2),z 16 (ld 62 3),z 17 (cl 28 #[(t 15),(t 16)] #[28,62]),z 14 (mv 17),z 18 (xt 14 0),z 19 (xt 14 1),z 20 (xt 14 2),z 5 (av 18),z 6 (av 19),z 7 (av 20)])
(S (R [z 22 (ld 28 2),z 23 (ld 62 3),z 24 (cl 30 #[(t 22),(t 23)] #[28,62]),z 21 (mv 24),z 25 (xt 21 0),z 26 (xt 21 1),z 8 (al 28),⟨none,st 28 8 25,none,true⟩,z 9 (av 26)])
(S (S (R [z 27 (mv 7),z 28 (cl 19 #[(t 27)] #[30]),z 29 (bo .neq (t 28) (n 0))])
(.cond (t 29)
(S (R [z 30 (mv 9),z 31 (cl 19 #[(t 30)] #[30]),z 32 (bo .eql (t 31) (n 2400)),z 33 (mv 32),zT 34 (ld 28 8) 33,zT 35 (.build 28 #[]) 33,zT 36 (cl 18 #[(t 34),(t 35)] #[28,28]) 33,z 37 (.pick (.tmp 33) (.tmp 36) (.const (.bool false))),z 4 (av 37)])
(.ret [4]))
.skip))
(S (S (R [z 38 (mv 6),z 39 (.unOp .not 4 (.tmp 38))])
(.cond (t 39)
(S (R [z 40 (mv 9),z 41 (cl 19 #[(t 40)] #[30]),z 42 (bo .eql (t 41) (n 0)),z 43 (mv 42),zT 44 (ld 28 8) 43,zT 45 (ld 28 2) 43,zT 46 (cl 18 #[(t 44),(t 45)] #[28,28]) 43,z 47 (.pick (.tmp 43) (.tmp 46) (.const (.bool false))),z 4 (av 47)])
(.ret [4]))
.skip))
(S (R [z 49 (ld 28 2),z 50 (mv 5),z 51 (cl 17 #[(t 49),(t 50)] #[28,3]),z 48 (mv 51),z 52 (xt 48 0),z 53 (xt 48 1),z 10 (al 28),⟨none,st 28 10 52,none,true⟩,z 11 (av 53)])
(S (S (R [z 54 (mv 11),z 55 (bo .neq (t 54) (n 0))])
(.cond (t 55)
(S (R [z 56 (mv 9),z 57 (cl 19 #[(t 56)] #[30]),z 58 (bo .eql (t 57) (n 2400)),z 59 (mv 58),zT 60 (ld 28 8) 59,zT 61 (.build 28 #[]) 59,zT 62 (cl 18 #[(t 60),(t 61)] #[28,28]) 59,z 63 (.pick (.tmp 59) (.tmp 62) (.const (.bool false))),z 4 (av 63)])
(.ret [4]))
.skip))
(S (R [z 64 (mv 9),z 65 (cl 19 #[(t 64)] #[30]),z 66 (bo .eql (t 65) (n 0)),z 67 (mv 66),zT 68 (ld 28 8) 67,zT 69 (ld 28 10) 67,zT 70 (cl 18 #[(t 68),(t 69)] #[28,28]) 67,z 71 (.pick (.tmp 67) (.tmp 70) (.const (.bool false))),z 72 (mv 71),zT 73 (cl 34 #[(n 0),(n 0)] #[3,3]) 72,zT 74 (.field 28 (.tmp 73) 3) 72,zT 75 (len 74 25) 72,zT 76 (bo .eql (t 75) (n 2)) 72,z 77 (.pick (.tmp 72) (.tmp 76) (.const (.bool false))),z 4 (av 77)])
(.ret [4]))))))))))
def g13:IFn:=⟨78,[.tmp 4],[4],c13,[],false,none⟩
def WQ:IR:=D [z 37 (fa 28 5 3),z 38 (ld 25 37),z 39 (mv 8),o 40 (ia 25 38 39),z 41 (ld 46 40),z 42 (fa 28 2 3),z 43 (ld 25 42),z 44 (mv 8),o 45 (ia 25 43 44),z 46 (ld 46 45),z 47 (cl 26 #[(t 41),(t 46)] #[46,46])] [[],[0],[],[1,2],[3],[],[5],[],[6,7],[8],[4,9]]
def WP:IR:=D [z 50 (fa 28 2 3),z 51 (ld 25 50),z 52 (mv 8),o 53 (ia 25 51 52),z 54 (fa 46 53 1),z 55 (ld 3 54),z 56 (fa 62 3 0),z 57 (ld 3 56),z 58 (bo .neq (t 55) (t 57)),z 59 (mv 58),zF 60 (fa 28 2 3) 59,zF 61 (ld 25 60) 59,zF 62 (mv 8) 59,oF 63 (ia 25 61 62) 59,zF 64 (fa 46 63 4) 59,zF 65 (ld 3 64) 59,zF 66 (bo .eql (t 65) (n 6)) 59,z 67 (.pick (.tmp 59) (.const (.bool true)) (.tmp 66))] [[],[0],[],[1,2],[3],[4],[],[6],[5,7],[8],[9],[10,9],[9],[11,12,9],[13,9],[14,9],[15,9],[9,16]]
def Nq:IR:=(S (S (R [z 30 (mv 8),z 31 (fa 28 2 3),z 32 (ld 25 31),z 33 (len 32 25),z 34 (bo .lss (t 30) (t 33))])
(.cond (t 34)
.skip
(.exit 0 [5,7])))
(S (.block 1 (S (S WQ
(.cond (t 47)
(.exit 1 [2,3,5,7,8])
.skip))
(S (R [z 48 (mv 7),z 49 (bo .add (t 48) (n 1)),z 7 (av 49)])
(S WP
(.cond (t 67)
(S (R [z 4 (ab false)])
(.ret [4]))
.skip)))))
(R [z 35 (mv 8),z 36 (bo .add (t 35) (n 1)),z 8 (av 36)])))
def c14:IR:=(S (R [z 2 (bx 28 0),z 3 (bx 62 1),z 4 (ab false)])
(S (S (R [z 9 (cl 32 #[] #[]),z 10 (.unOp .not 4 (.tmp 9))])
(.cond (t 10)
(S (R [z 4 (ab false)])
(.ret [4]))
.skip))
(S (R [z 12 (ld 28 2),z 13 (ld 62 3),z 14 (cl 30 #[(t 12),(t 13)] #[28,62]),z 11 (mv 14),z 15 (xt 11 0),z 16 (xt 11 1),z 5 (al 28),⟨none,st 28 5 15,none,true⟩,z 6 (av 16)])
(S (S (R [z 17 (mv 6),z 18 (cl 19 #[(t 17)] #[30]),z 19 (bo .neq (t 18) (n 0))])
(.cond (t 19)
(S (R [z 20 (ld 28 5),z 21 (.build 28 #[]),z 22 (cl 18 #[(t 20),(t 21)] #[28,28]),z 4 (av 22)])
(.ret [4]))
.skip))
(S (S (R [z 23 (fa 28 5 3),z 24 (ld 25 23),z 25 (len 24 25),z 26 (fa 28 2 3),z 27 (ld 25 26),z 28 (len 27 25),z 29 (bo .neq (t 25) (t 28))])
(.cond (t 29)
(S (R [z 4 (ab false)])
(.ret [4]))
.skip))
(S (R [z 7 (an 0)])
(S (S (R [z 8 (an 0)])
(.block 0 (.loop [2,3,5,7,8] Nq)))
(S (R [z 68 (mv 7),z 69 (bo .leq (t 68) (n 1)),z 70 (mv 69),zT 71 (ld 28 5) 70,zT 72 (cl 27 #[(t 71)] #[28]) 70,z 73 (.pick (.tmp 70) (.tmp 72) (.const (.bool false))),z 74 (mv 73),zT 75 (cl 34 #[(n 0),(n 0)] #[3,3]) 74,zT 76 (.field 28 (.tmp 75) 3) 74,zT 77 (len 76 25) 74,zT 78 (bo .eql (t 77) (n 2)) 74,z 79 (.pick (.tmp 74) (.tmp 78) (.const (.bool false))),z 4 (av 79)])
(.ret [4])))))))))
def g14:IFn:=⟨80,[.tmp 4],[4],c14,[],false,none⟩
def WO:IR:=D [o 18 (fa 28 3 3),o 19 (ld 25 18),o 20 (fa 28 1 3),o 21 (ld 25 20),o 22 (mv 4),o 23 (ia 25 21 22),o 24 (ld 46 23),o 25 (cl 36 #[(t 24)] #[46]),o 26 (.buildSlice 25 1 #[(0,(.tmp 25))]),o 27 (.call { callee:=(.builtin .append),args:=#[(.tmp 19),(.tmp 26)],argTypes:=#[25,25] }),o 28 (fa 28 3 3),w (st 25 28 27)] [[],[0],[],[2],[],[3,4],[5],[6],[7],[1,8,7],[0,1,2,3,4,5,6,7,8,9],[10,9,9,0,1,2,3,4,5,6,7,8,9]]
def SV:IR:=(S (S (R [o 11 (mv 4),o 12 (fa 28 1 3),o 13 (ld 25 12),o 14 (len 13 25),o 15 (bo .lss (t 11) (t 14))])
(.cond (t 15)
.skip
(.exit 0 [1,2,3])))
(S (.block 1 WO)
(R [o 16 (mv 4),o 17 (bo .add (t 16) (n 1)),o 4 (av 17)])))
def c15:IR:=(S (R [z 1 (bx 28 0),o 2 (al 28)])
(S (R [o 5 (ld 28 1),o 3 (al 28),w (st 28 3 5)])
(S (R [o 6 (fa 28 1 0),o 7 (ld 23 6),o 8 (cl 35 #[(t 7)] #[23]),o 9 (fa 28 3 0),w (st 23 9 8)])
(S (R [o 10 (fa 28 3 3),w (.store 25 (.tmp 10) (.const (.slice none 0 0)))])
(S (S (R [o 4 (an 0)])
(.block 0 (.loop [1,2,3,4] SV)))
(S (R [o 29 (.buildSlice 26 0 #[]),o 30 (fa 28 1 4),o 31 (ld 26 30),o 32 (.call { callee:=(.builtin .append),args:=#[(.tmp 29),(.tmp 31)],argTypes:=#[26,26] }),o 33 (fa 28 3 4),w (st 26 33 32)])
(S (R [o 34 (ld 28 3),w (st 28 2 34)])
(.ret [2]))))))))
def g15:IFn:=⟨35,[.cell 2 28],[28],c15,[],false,none⟩
def c16:IR:=(S (R [z 2 (bx 28 0),o 4 (al 28),o 5 (an 0)])
(S (S (R [o 8 (mv 1),o 9 (cl 37 #[(t 2),(t 8)] #[73,3]),o 10 (.unOp .not 4 (.tmp 9))])
(.cond (t 10)
(S (R [o 11 (.build 28 #[]),w (st 28 4 11),o 5 (an 2300)])
(.ret [4,5]))
.skip))
(S (R [o 13 (ld 28 2),o 14 (mv 1),o 15 (.build 75 #[(0,(.tmp 13)),(1,(.tmp 14))]),o 16 (cl 38 #[(t 15)] #[75]),o 12 (mv 16),o 17 (xt 12 0),o 18 (xt 12 1),o 6 (al 28),w (st 28 6 17),o 7 (av 18)])
(S (S (R [o 19 (mv 7),o 20 (.binOp .neq 30 (.tmp 19) (.const (.int .i64 0)) 30)])
(.cond (t 20)
(S (R [o 21 (.build 28 #[]),w (st 28 4 21),o 5 (an 2300)])
(.ret [4,5]))
.skip))
(S (R [o 22 (ld 28 6),w (st 28 4 22),o 5 (an 0)])
(.ret [4,5]))))))
def g16:IFn:=⟨23,[.cell 4 28,.tmp 5],[28,30],c16,[],false,none⟩
def c17:IR:=(S (R [z 2 (bx 28 0),o 4 (al 28),o 5 (an 0)])
(S (S (R [o 8 (ld 28 2),o 9 (mv 1),o 10 (cl 39 #[(t 8),(t 9)] #[28,3]),o 11 (.unOp .not 4 (.tmp 10))])
(.cond (t 11)
(S (R [o 12 (.build 28 #[]),w (st 28 4 12),o 5 (an 2300)])
(.ret [4,5]))
.skip))
(S (R [o 13 (ld 28 2),o 14 (cl 40 #[(t 13)] #[28]),o 6 (al 28),w (st 28 6 14),o 7 (an 0)])
(S (S (R [o 15 (fa 28 2 3),o 16 (ld 25 15),o 17 (mv 1),o 18 (ia 25 16 17),o 19 (fa 46 18 4),o 20 (ld 3 19)])
(.block 0 (S (R [o 22 (bo .eql (t 20) (n 0)),o 21 (av 22)])
(.cond (t 21)
(R [o 24 (ld 28 2),o 25 (mv 1),o 26 (cl 41 #[(t 24),(t 25)] #[28,3]),o 23 (mv 26),o 27 (xt 23 0),o 28 (xt 23 1),w (st 28 6 27),o 7 (av 28)])
(S (R [o 30 (bo .eql (t 20) (n 1)),o 29 (av 30)])
(.cond (t 29)
(R [o 32 (ld 28 2),o 33 (mv 1),o 34 (cl 42 #[(t 32),(t 33)] #[28,3]),o 31 (mv 34),o 35 (xt 31 0),o 36 (xt 31 1),w (st 28 6 35),o 7 (av 36)])
(S (R [o 38 (bo .eql (t 20) (n 2)),o 37 (av 38)])
(.cond (t 37)
(R [o 40 (ld 28 2),o 41 (mv 1),o 42 (cl 43 #[(t 40),(t 41)] #[28,3]),o 39 (mv 42),o 43 (xt 39 0),o 44 (xt 39 1),w (st 28 6 43),o 7 (av 44)])
(S (R [o 46 (bo .eql (t 20) (n 3)),o 45 (av 46)])
(.cond (t 45)
(R [o 48 (ld 28 2),o 49 (mv 1),o 50 (cl 44 #[(t 48),(t 49)] #[28,3]),o 47 (mv 50),o 51 (xt 47 0),o 52 (xt 47 1),w (st 28 6 51),o 7 (av 52)])
(S (R [o 54 (bo .eql (t 20) (n 4)),o 53 (av 54)])
(.cond (t 53)
(R [o 56 (ld 28 2),o 57 (mv 1),o 58 (cl 45 #[(t 56),(t 57)] #[28,3]),o 55 (mv 58),o 59 (xt 55 0),o 60 (xt 55 1),w (st 28 6 59),o 7 (av 60)])
(S (R [o 62 (bo .eql (t 20) (n 5)),o 61 (av 62)])
(.cond (t 61)
(R [o 64 (ld 28 2),o 65 (mv 1),o 66 (cl 46 #[(t 64),(t 65)] #[28,3]),o 63 (mv 66),o 67 (xt 63 0),o 68 (xt 63 1),w (st 28 6 67),o 7 (av 68)])
.skip))))))))))))))
(S (S (R [o 69 (mv 7),o 70 (bo .neq (t 69) (n 0))])
(.cond (t 70)
(S (R [o 71 (.build 28 #[]),w (st 28 4 71),o 5 (an 2300)])
(.ret [4,5]))
.skip))
(S (R [o 72 (ld 28 6),w (st 28 4 72),o 5 (an 0)])
(.ret [4,5])))))))
def g17:IFn:=⟨73,[.cell 4 28,.tmp 5],[28,3],c17,[],false,none⟩
def WN:IR:=D [o 50 (fa 28 2 3),o 51 (ld 25 50),o 52 (mv 5),o 53 (ia 25 51 52),o 54 (ld 46 53),o 55 (fa 28 3 3),o 56 (ld 25 55),o 57 (mv 5),o 58 (ia 25 56 57),o 59 (ld 46 58),o 60 (cl 26 #[(t 54),(t 59)] #[46,46]),o 61 (.unOp .not 4 (.tmp 60))] [[],[0],[],[1,2],[3],[],[5],[],[6,7],[8],[4,9],[10]]
def OT:IR:=(S (S (R [o 43 (mv 5),o 44 (fa 28 2 3),o 45 (ld 25 44),o 46 (len 45 25),o 47 (bo .lss (t 43) (t 46))])
(.cond (t 47)
.skip
(.exit 0 [])))
(S (.block 1 (S WN
(.cond (t 61)
(S (R [o 4 (ab false)])
(.ret [4]))
.skip)))
(R [o 48 (mv 5),o 49 (bo .add (t 48) (n 1)),o 5 (av 49)])))
def c18:IR:=(S (R [z 2 (bx 28 0),z 3 (bx 28 1),o 4 (ab false)])
(S (S (R [o 6 (fa 28 2 0),o 7 (ld 23 6),o 8 (fa 28 3 0),o 9 (ld 23 8),o 10 (cl 24 #[(t 7),(t 9)] #[23,23]),o 11 (.unOp .not 4 (.tmp 10)),o 12 (mv 11),oF 13 (fa 28 2 1) 12,oF 14 (ld 24 13) 12,oF 15 (fa 28 3 1) 12,oF 16 (ld 24 15) 12,oF 17 (.binOp .neq 24 (.tmp 14) (.tmp 16) 24) 12,o 18 (.pick (.tmp 12) (.const (.bool true)) (.tmp 17)),o 19 (mv 18),oF 20 (fa 28 2 2) 19,oF 21 (ld 3 20) 19,oF 22 (fa 28 3 2) 19,oF 23 (ld 3 22) 19,oF 24 (bo .neq (t 21) (t 23)) 19,o 25 (.pick (.tmp 19) (.const (.bool true)) (.tmp 24)),o 26 (mv 25),oF 27 (fa 28 2 3) 26,oF 28 (ld 25 27) 26,oF 29 (len 28 25) 26,oF 30 (fa 28 3 3) 26,oF 31 (ld 25 30) 26,oF 32 (len 31 25) 26,oF 33 (bo .neq (t 29) (t 32)) 26,o 34 (.pick (.tmp 26) (.const (.bool true)) (.tmp 33)),o 35 (mv 34),oF 36 (fa 28 2 4) 35,oF 37 (ld 26 36) 35,oF 38 (fa 28 3 4) 35,oF 39 (ld 26 38) 35,oF 40 (cl 25 #[(t 37),(t 39)] #[26,26]) 35,oF 41 (.unOp .not 4 (.tmp 40)) 35,o 42 (.pick (.tmp 35) (.const (.bool true)) (.tmp 41))])
(.cond (t 42)
(S (R [o 4 (ab false)])
(.ret [4]))
.skip))
(S (S (R [o 5 (an 0)])
(.block 0 (.loop [2,3,5] OT)))
(S (R [o 4 (ab true)])
(.ret [4])))))
def g18:IFn:=⟨62,[.tmp 4],[4],c18,[],false,none⟩
def c19:IR:=(S (R [o 2 (an 0)])
(S (R [o 3 (mv 0),o 2 (av 3)])
(.ret [2])))
def g19:IFn:=⟨4,[.tmp 2],[3],c19,[],false,none⟩
def WM:IR:=D [o 19 (fa 28 1 3),o 20 (ld 25 19),o 21 (mv 2),o 22 (fa 28 1 3),o 23 (ld 25 22),o 24 (mv 2),o 25 (ia 25 23 24),o 26 (fa 46 25 0),o 27 (ld 3 26),o 28 (bo .xor (t 27) (n 90)),o 29 (ia 25 20 21),o 30 (fa 46 29 0),w (st 3 30 28)] [[],[0],[],[],[3],[],[4,5],[6],[7],[8],[1,2,0,1,2,3,4,5,6,7,8,9],[10,0,1,2,3,4,5,6,7,8,9],[11,9,0,1,2,3,4,5,6,7,8,9]]
def SU:IR:=(S (S (R [o 6 (mv 2),o 7 (fa 28 1 3),o 8 (ld 25 7),o 9 (len 8 25),o 10 (bo .lss (t 6) (t 9))])
(.cond (t 10)
.skip
(.exit 0 [1])))
(S (.block 1 (S (R [o 13 (fa 28 1 3),o 14 (ld 25 13),o 15 (mv 2),o 16 (ia 25 14 15),o 17 (ld 46 16),o 18 (cl 48 #[(t 17)] #[46])])
WM))
(R [o 11 (mv 2),o 12 (bo .add (t 11) (n 1)),o 2 (av 12)])))
def c20:IR:=(S (R [o 1 (bx 28 0)])
(S (R [o 3 (fa 28 1 0),o 4 (ld 23 3),o 5 (cl 47 #[(t 4)] #[23])])
(S (S (R [o 2 (an 0)])
(.block 0 (.loop [1,2] SU)))
(R [o 31 (fa 28 1 4),o 32 (ld 26 31),o 33 (cl 49 #[(t 32)] #[26])]))))
def g20:IFn:=⟨34,[],[],c20,[true],false,none⟩
def mO:IR:=(S (S (R [z 10 (mv 2),z 11 (bo .lss (t 10) (n 8))])
(.cond (t 11)
.skip
(.exit 0 [1])))
(S (.block 1 (S (R [z 15 (ld 28 1),z 16 (cl 16 #[(t 15),(n 0)] #[28,3]),z 14 (mv 16),z 17 (xt 14 0),z 18 (xt 14 1),z 3 (al 28),⟨none,st 28 3 17,none,true⟩,z 4 (av 18)])
(S (S (R [z 19 (mv 4),z 20 (cl 19 #[(t 19)] #[30]),z 21 (bo .neq (t 20) (n 0)),z 22 (mv 21),zF 23 (fa 28 3 3) 22,zF 24 (ld 25 23) 22,zF 25 (len 24 25) 22,zF 26 (bo .neq (t 25) (n 2)) 22,z 27 (.pick (.tmp 22) (.const (.bool true)) (.tmp 26))])
(.cond (t 27)
(S (R [z 0 (ab false)])
(.ret [0]))
.skip))
(R [z 28 (ld 28 3),⟨none,st 28 1 28,none,true⟩]))))
(R [z 12 (mv 2),z 13 (bo .add (t 12) (n 1)),z 2 (av 13)])))
def WL:IR:=D [z 39 (ld 28 1),z 40 (cl 22 #[(n 0),(n 8)] #[3,3]),z 41 (cl 18 #[(t 39),(t 40)] #[28,28]),z 42 (mv 41),zT 43 (fa 28 1 3) 42,zT 44 (ld 25 43) 42,oT 45 (.indexAddr 25 (.tmp 44) (.const (.int .i64 0))) 42,zT 46 (fa 46 45 12) 42,zT 47 (ld 3 46) 42,zT 48 (bo .eql (t 47) (n 1)) 42,z 49 (.pick (.tmp 42) (.tmp 48) (.const (.bool false))),z 50 (mv 49),zT 51 (ld 28 5) 50,zT 52 (ld 28 1) 50,zT 53 (cl 18 #[(t 51),(t 52)] #[28,28]) 50,z 54 (.pick (.tmp 50) (.tmp 53) (.const (.bool false))),z 55 (mv 54),zT 56 (mv 6) 55,zT 57 (cl 19 #[(t 56)] #[30]) 55,zT 58 (bo .eql (t 57) (n 0)) 55,z 59 (.pick (.tmp 55) (.tmp 58) (.const (.bool false))),z 60 (mv 59),zT 61 (mv 8) 60,zT 62 (cl 19 #[(t 61)] #[30]) 60,zT 63 (bo .eql (t 62) (n 2300)) 60,z 64 (.pick (.tmp 60) (.tmp 63) (.const (.bool false))),z 0 (av 64)] [[],[],[0,1,1],[2,2],[3],[4,3],[5,3],[6,3],[7,3],[8,3],[3,9],[10,3],[11],[11],[12,13,11,11],[11,14],[15,14],[16],[17,16,16],[18,16],[16,19],[20,18],[21],[22,21,21],[23,21],[21,24],[25,23,0,1,2,3,4,5,6,7,8,9,10,11,12,13,14,15,16,17,18,19,20,21,22,23,24,25]]
def c21:IR:=(S (R [z 0 (ab false)])
(S (R [z 9 (cl 23 #[] #[]),z 1 (al 28),⟨none,st 28 1 9,none,true⟩])
(S (S (R [z 2 (an 0)])
(.block 0 (.loop [1,2] mO)))
(S (R [z 30 (ld 28 1),z 31 (cl 16 #[(t 30),(n 0)] #[28,3]),z 29 (mv 31),z 32 (xt 29 0),z 33 (xt 29 1),z 5 (al 28),⟨none,st 28 5 32,none,true⟩,z 6 (av 33)])
(S (R [z 35 (ld 28 1),z 36 (cl 16 #[(t 35),(n 2)] #[28,3]),z 34 (mv 36),z 37 (xt 34 0),z 38 (xt 34 1),z 7 (al 28),⟨none,st 28 7 37,none,true⟩,z 8 (av 38)])
(S WL
(.ret [0])))))))
def g21:IFn:=⟨65,[.tmp 0],[4],c21,[],false,none⟩
def mN:IR:=(S (S (R [o 8 (mv 6),o 9 (mv 1),o 10 (bo .lss (t 8) (t 9))])
(.cond (t 10)
.skip
(.exit 0 [4,5])))
(S (.block 1 (R [o 14 (ld 28 5),o 15 (mv 0),o 16 (cl 17 #[(t 14),(t 15)] #[28,3]),o 13 (mv 16),o 17 (xt 13 0),o 18 (xt 13 1),w (st 28 5 17)]))
(R [o 11 (mv 6),o 12 (bo .add (t 11) (n 1)),o 6 (av 12)])))
def c22:IR:=(S (R [o 4 (al 28)])
(S (R [o 7 (cl 23 #[] #[]),o 5 (al 28),w (st 28 5 7)])
(S (S (R [o 6 (an 0)])
(.block 0 (.loop [0,1,4,5,6] mN)))
(S (R [o 19 (ld 28 5),w (st 28 4 19)])
(.ret [4])))))
def g22:IFn:=⟨20,[.cell 4 28],[28],c22,[],false,none⟩
def c23:IR:=(S (R [o 0 (al 28)])
(S (R [o 4 (.buildSlice 59 2 #[(0,(.const (.int .i64 5))),(1,(.const (.int .i64 6)))]),o 5 (.buildSlice 59 1 #[(0,(.const (.int .i64 7)))]),o 6 (.buildSlice 59 1 #[(0,(.const (.int .i64 9)))]),o 7 (.build 81 #[(0,(.tmp 4)),(1,(.tmp 5)),(2,(.const (.slice none 0 0))),(3,(.tmp 6))]),o 8 (.build 52 #[(0,(.const (.int .i64 2)))]),o 9 (.build 52 #[(0,(.const (.int .i64 1)))]),o 10 (.build 52 #[(0,(.const (.int .i64 3)))]),o 11 (.buildSlice 42 3 #[(0,(.tmp 8)),(1,(.tmp 9)),(2,(.tmp 10))]),o 12 (.build 83 #[(0,(.const (.int .i64 3))),(2,(.const (.int .i64 3))),(3,(.tmp 11))]),o 13 (.build 52 #[(0,(.const (.int .i64 2))),(3,(.const (.int .i64 1)))]),o 14 (.build 52 #[(0,(.const (.int .i64 3))),(2,(.const (.int .i64 1)))]),o 15 (.buildSlice 42 2 #[(0,(.tmp 13)),(1,(.tmp 14))]),o 16 (.build 83 #[(0,(.const (.int .i64 5))),(1,(.const (.int .i64 1))),(2,(.const (.int .i64 1))),(3,(.tmp 15))]),o 17 (.buildSlice 84 2 #[(0,(.tmp 12)),(1,(.tmp 16))]),o 18 (.build 87 #[(0,(.tmp 7)),(1,(.const (.int .i64 9))),(2,(.tmp 17))]),o 19 (cl 50 #[(t 18)] #[87]),o 3 (mv 19),o 20 (xt 3 0),o 21 (xt 3 1),o 1 (al 28),w (st 28 1 20),o 2 (av 21)])
(S (R [o 22 (ld 28 1),w (st 28 0 22)])
(.ret [0]))))
def g23:IFn:=⟨23,[.cell 0 28],[28],c23,[],false,none⟩
def WK:IR:=D [o 10 (mv 5),o 11 (ia 23 2 10),o 12 (ld 22 11),o 13 (mv 5),o 14 (ia 23 3 13),o 15 (ld 22 14),o 16 (cl 51 #[(t 12),(t 15)] #[22,22]),o 17 (.unOp .not 4 (.tmp 16))] [[],[0],[1],[],[3],[4],[2,5],[6]]
def ST:IR:=(S (S (R [o 6 (mv 5),o 7 (bo .lss (t 6) (n 4))])
(.cond (t 7)
.skip
(.exit 0 [])))
(S (.block 1 (S WK
(.cond (t 17)
(S (R [o 4 (ab false)])
(.ret [4]))
.skip)))
(R [o 8 (mv 5),o 9 (bo .add (t 8) (n 1)),o 5 (av 9)])))
def c24:IR:=(S (R [z 2 (bx 23 0),z 3 (bx 23 1),o 4 (ab false)])
(S (S (R [o 5 (an 0)])
(.block 0 (.loop [2,3,5] ST)))
(S (R [o 4 (ab true)])
(.ret [4]))))
def g24:IFn:=⟨18,[.tmp 4],[4],c24,[],false,none⟩
def WJ:IR:=D [o 17 (mv 0),o 18 (mv 5),o 19 (ia 26 17 18),o 20 (ld 90 19),o 21 (mv 1),o 22 (mv 5),o 23 (ia 26 21 22),o 24 (ld 90 23),o 25 (.binOp .neq 90 (.tmp 20) (.tmp 24) 90)] [[],[],[0,1],[2],[],[],[4,5],[6],[3,7]]
def OS:IR:=(S (S (R [o 11 (mv 5),o 12 (mv 0),o 13 (len 12 26),o 14 (bo .lss (t 11) (t 13))])
(.cond (t 14)
.skip
(.exit 0 [])))
(S (.block 1 (S WJ
(.cond (t 25)
(S (R [o 4 (ab false)])
(.ret [4]))
.skip)))
(R [o 15 (mv 5),o 16 (bo .add (t 15) (n 1)),o 5 (av 16)])))
def c25:IR:=(S (R [o 4 (ab false)])
(S (S (R [o 6 (mv 0),o 7 (len 6 26),o 8 (mv 1),o 9 (len 8 26),o 10 (bo .neq (t 7) (t 9))])
(.cond (t 10)
(S (R [o 4 (ab false)])
(.ret [4]))
.skip))
(S (S (R [o 5 (an 0)])
(.block 0 (.loop [0,1,5] OS)))
(S (R [o 4 (ab true)])
(.ret [4])))))
def g25:IFn:=⟨26,[.tmp 4],[4],c25,[],false,none⟩
def c26:IR:=(S (R [z 2 (bx 46 0),z 3 (bx 46 1),o 4 (ab false)])
(S (R [o 5 (fa 46 2 0),o 6 (ld 3 5),o 7 (fa 46 3 0),o 8 (ld 3 7),o 9 (bo .eql (t 6) (t 8)),o 10 (mv 9),oT 11 (fa 46 2 1) 10,oT 12 (ld 3 11) 10,oT 13 (fa 46 3 1) 10,oT 14 (ld 3 13) 10,oT 15 (bo .eql (t 12) (t 14)) 10,o 16 (.pick (.tmp 10) (.tmp 15) (.const (.bool false))),o 17 (mv 16),oT 18 (fa 46 2 2) 17,oT 19 (ld 3 18) 17,oT 20 (fa 46 3 2) 17,oT 21 (ld 3 20) 17,oT 22 (bo .eql (t 19) (t 21)) 17,o 23 (.pick (.tmp 17) (.tmp 22) (.const (.bool false))),o 24 (mv 23),oT 25 (fa 46 2 3) 24,oT 26 (ld 42 25) 24,oT 27 (fa 46 3 3) 24,oT 28 (ld 42 27) 24,oT 29 (cl 52 #[(t 26),(t 28)] #[42,42]) 24,o 30 (.pick (.tmp 24) (.tmp 29) (.const (.bool false))),o 31 (mv 30),oT 32 (fa 46 2 4) 31,oT 33 (ld 3 32) 31,oT 34 (fa 46 3 4) 31,oT 35 (ld 3 34) 31,oT 36 (bo .eql (t 33) (t 35)) 31,o 37 (.pick (.tmp 31) (.tmp 36) (.const (.bool false))),o 38 (mv 37),oT 39 (fa 46 2 5) 38,oT 40 (ld 3 39) 38,oT 41 (fa 46 3 5) 38,oT 42 (ld 3 41) 38,oT 43 (bo .eql (t 40) (t 42)) 38,o 44 (.pick (.tmp 38) (.tmp 43) (.const (.bool false))),o 45 (mv 44),oT 46 (fa 46 2 6) 45,oT 47 (ld 24 46) 45,oT 48 (fa 46 3 6) 45,oT 49 (ld 24 48) 45,oT 50 (.binOp .eql 24 (.tmp 47) (.tmp 49) 24) 45,o 51 (.pick (.tmp 45) (.tmp 50) (.const (.bool false))),o 52 (mv 51),oT 53 (fa 46 2 7) 52,oT 54 (ld 43 53) 52,oT 55 (fa 46 3 7) 52,oT 56 (ld 43 55) 52,oT 57 (cl 53 #[(t 54),(t 56)] #[43,43]) 52,o 58 (.pick (.tmp 52) (.tmp 57) (.const (.bool false))),o 59 (mv 58),oT 60 (fa 46 2 8) 59,oT 61 (ld 44 60) 59,oT 62 (fa 46 3 8) 59,oT 63 (ld 44 62) 59,oT 64 (cl 54 #[(t 61),(t 63)] #[44,44]) 59,o 65 (.pick (.tmp 59) (.tmp 64) (.const (.bool false))),o 66 (mv 65),oT 67 (fa 46 2 9) 66,oT 68 (ld 3 67) 66,oT 69 (fa 46 3 9) 66,oT 70 (ld 3 69) 66,oT 71 (bo .eql (t 68) (t 70)) 66,o 72 (.pick (.tmp 66) (.tmp 71) (.const (.bool false))),o 73 (mv 72),oT 74 (fa 46 2 10) 73,oT 75 (ld 3 74) 73,oT 76 (fa 46 3 10) 73,oT 77 (ld 3 76) 73,oT 78 (bo .eql (t 75) (t 77)) 73,o 79 (.pick (.tmp 73) (.tmp 78) (.const (.bool false))),o 80 (mv 79),oT 81 (fa 46 2 11) 80,oT 82 (ld 3 81) 80,oT 83 (fa 46 3 11) 80,oT 84 (ld 3 83) 80,oT 85 (bo .eql (t 82) (t 84)) 80,o 86 (.pick (.tmp 80) (.tmp 85) (.const (.bool false))),o 87 (mv 86),oT 88 (fa 46 2 12) 87,oT 89 (ld 3 88) 87,oT 90 (fa 46 3 12) 87,oT 91 (ld 3 90) 87,oT 92 (bo .eql (t 89) (t 91)) 87,o 93 (.pick (.tmp 87) (.tmp 92) (.const (.bool false))),o 94 (mv 93),oT 95 (fa 46 2 13) 94,oT 96 (ld 3 95) 94,oT 97 (fa 46 3 13) 94,oT 98 (ld 3 97) 94,oT 99 (bo .eql (t 96) (t 98)) 94,o 100 (.pick (.tmp 94) (.tmp 99) (.const (.bool false))),o 4 (av 100)])
(.ret [4])))
def g26:IFn:=⟨101,[.tmp 4],[4],c26,[],false,none⟩
def WI:IR:=D [o 32 (mv 3),o 33 (fa 28 1 1),o 34 (ia 24 33 32),o 35 (ld 3 34),o 36 (fa 28 1 2),o 37 (ld 3 36),o 38 (cl 57 #[(t 35),(n 0),(t 37)] #[3,3,3]),o 39 (.unOp .not 4 (.tmp 38))] [[],[],[1,0],[2],[],[4],[3,5],[6]]
def Nj:IR:=(S (S (R [o 28 (mv 3),o 29 (bo .lss (t 28) (n 4))])
(.cond (t 29)
.skip
(.exit 0 [1])))
(S (.block 1 (S WI
(.cond (t 39)
(S (R [o 2 (ab false)])
(.ret [2]))
.skip)))
(R [o 30 (mv 3),o 31 (bo .add (t 30) (n 1)),o 3 (av 31)])))
def WH:IR:=D [o 47 (ld 28 1),o 48 (fa 28 1 3),o 49 (ld 25 48),o 50 (mv 4),o 51 (ia 25 49 50),o 52 (ld 46 51),o 53 (cl 58 #[(t 47),(t 52)] #[28,46]),o 54 (.unOp .not 4 (.tmp 53)),o 55 (mv 54),oF 56 (mv 4) 55,oF 57 (bo .gtr (t 56) (n 0)) 55,oF 58 (mv 57) 55,oT 59 (fa 28 1 3) 58,oT 60 (ld 25 59) 58,oT 61 (mv 4) 58,oT 62 (ia 25 60 61) 58,oT 63 (fa 46 62 0) 58,oT 64 (ld 3 63) 58,oT 65 (fa 28 1 3) 58,oT 66 (ld 25 65) 58,oT 67 (mv 4) 58,oT 68 (bo .sub (t 67) (n 1)) 58,oT 69 (ia 25 66 68) 58,oT 70 (fa 46 69 0) 58,oT 71 (ld 3 70) 58,oT 72 (bo .leq (t 64) (t 71)) 58,oF 73 (.pick (.tmp 58) (.tmp 72) (.const (.bool false))) 55,o 74 (.pick (.tmp 55) (.const (.bool true)) (.tmp 73))] [[],[],[1],[],[2,3],[4],[0,5],[6],[7,6],[8],[9,8],[10,8,8],[11],[12,11],[11],[13,14,11],[15,11],[16,11],[11],[18,11],[11],[20,11],[19,21,11],[22,11],[23,11],[17,24,11],[11,25,8],[8,26]]
def LG:IR:=(S (S (R [o 40 (mv 4),o 41 (fa 28 1 3),o 42 (ld 25 41),o 43 (len 42 25),o 44 (bo .lss (t 40) (t 43))])
(.cond (t 44)
.skip
(.exit 2 [1])))
(S (.block 3 (S WH
(.cond (t 74)
(S (R [o 2 (ab false)])
(.ret [2]))
.skip)))
(R [o 45 (mv 4),o 46 (bo .add (t 45) (n 1)),o 4 (av 46)])))
def OR:IR:=(S (S (R [o 75 (mv 5),o 76 (fa 28 1 4),o 77 (ld 26 76),o 78 (len 77 26),o 79 (bo .lss (t 75) (t 78))])
(.cond (t 79)
.skip
(.exit 4 [])))
(S (.block 5 (S (R [o 82 (fa 28 1 4),o 83 (ld 26 82),o 84 (mv 5),o 85 (ia 26 83 84),o 86 (fa 90 85 1),o 87 (ld 3 86),o 88 (cl 59 #[(t 87)] #[3]),o 89 (.unOp .not 4 (.tmp 88))])
(.cond (t 89)
(S (R [o 2 (ab false)])
(.ret [2]))
.skip)))
(R [o 80 (mv 5),o 81 (bo .add (t 80) (n 1)),o 5 (av 81)])))
def c27:IR:=(S (R [z 1 (bx 28 0),o 2 (ab false)])
(S (S (R [o 6 (fa 28 1 0),o 7 (ld 23 6),o 8 (cl 55 #[(t 7)] #[23]),o 9 (.unOp .not 4 (.tmp 8)),o 10 (mv 9),oF 11 (fa 28 1 2) 10,oF 12 (ld 3 11) 10,oF 13 (cl 56 #[(t 12)] #[3]) 10,oF 14 (.unOp .not 4 (.tmp 13)) 10,o 15 (.pick (.tmp 10) (.const (.bool true)) (.tmp 14)),o 16 (mv 15),oF 17 (fa 28 1 3) 16,oF 18 (ld 25 17) 16,oF 19 (len 18 25) 16,oF 20 (bo .gtr (t 19) (n 4)) 16,o 21 (.pick (.tmp 16) (.const (.bool true)) (.tmp 20)),o 22 (mv 21),oF 23 (fa 28 1 4) 22,oF 24 (ld 26 23) 22,oF 25 (len 24 26) 22,oF 26 (bo .gtr (t 25) (n 512)) 22,o 27 (.pick (.tmp 22) (.const (.bool true)) (.tmp 26))])
(.cond (t 27)
(S (R [o 2 (ab false)])
(.ret [2]))
.skip))
(S (S (R [o 3 (an 0)])
(.block 0 (.loop [1,3] Nj)))
(S (S (R [o 4 (an 0)])
(.block 2 (.loop [1,4] LG)))
(S (S (R [o 5 (an 0)])
(.block 4 (.loop [1,5] OR)))
(S (R [o 2 (ab true)])
(.ret [2])))))))
def g27:IFn:=⟨90,[.tmp 2],[4],c27,[],false,none⟩
def Hw:IR:=(S (R [o 22 (bo .lss (t 21) (t 20))])
(S (.cond (t 22)
.skip
(.exit 0 [3,7]))
(S (.block 1 (S (R [o 23 (mv 21),o 24 (ia 25 19 21),o 25 (ld 46 24),o 9 (al 46),o 8 (av 23),w (st 46 9 25)])
(S (R [o 26 (fa 46 9 1),o 27 (ld 3 26),o 28 (fa 62 3 0),o 29 (ld 3 28),o 30 (bo .eql (t 27) (t 29)),o 31 (mv 30),oT 32 (fa 46 9 4) 31,oT 33 (ld 3 32) 31,oT 34 (bo .neq (t 33) (n 6)) 31,o 35 (.pick (.tmp 31) (.tmp 34) (.const (.bool false)))])
(.cond (t 35)
(R [o 36 (mv 7),o 37 (mv 8),o 38 (.buildSlice 59 1 #[(0,(.tmp 37))]),o 39 (.call { callee:=(.builtin .append),args:=#[(.tmp 36),(.tmp 38)],argTypes:=#[59,59] }),o 7 (av 39)])
.skip))))
(R [o 40 (bo .add (t 21) (n 1)),o 21 (mv 40)]))))
def c28:IR:=(S (R [z 2 (bx 28 0),z 3 (bx 62 1),o 4 (an 0),o 5 (ab false),o 6 (an 0)])
(S (S (R [o 10 (ld 28 2),o 11 (cl 60 #[(t 10)] #[28]),o 12 (.unOp .not 4 (.tmp 11)),o 13 (mv 12),oF 14 (ld 62 3) 13,oF 15 (cl 61 #[(t 14)] #[62]) 13,oF 16 (.unOp .not 4 (.tmp 15)) 13,o 17 (.pick (.tmp 13) (.const (.bool true)) (.tmp 16))])
(.cond (t 17)
(S (R [o 4 (an 0),o 5 (ab false),o 6 (an 2400)])
(.ret [4,5,6]))
.skip))
(S (R [o 7 (.assign (.const (.slice none 0 0)))])
(S (S (R [o 18 (fa 28 2 3),o 19 (ld 25 18),o 20 (len 19 25),o 21 (.move (.const (.int .i64 0)))])
(.block 0 (.loop [3,7,19,20,21] Hw)))
(S (S (R [o 41 (mv 7),o 42 (len 41 59),o 43 (bo .eql (t 42) (n 0))])
(.cond (t 43)
(S (R [o 4 (an 0),o 5 (ab false),o 6 (an 0)])
(.ret [4,5,6]))
.skip))
(S (R [o 44 (mv 7),o 45 (fa 62 3 1),o 46 (ld 3 45),o 47 (mv 7),o 48 (len 47 59),o 49 (bo .rem (t 46) (t 48)),o 50 (ia 59 44 49),o 51 (ld 3 50),o 4 (av 51),o 5 (ab true),o 6 (an 0)])
(.ret [4,5,6])))))))
def g28:IFn:=⟨52,[.tmp 4,.tmp 5,.tmp 6],[3,4,30],c28,[],false,none⟩
def WG:IR:=D [o 24 (fa 28 2 3),o 25 (ld 25 24),o 26 (mv 8),o 27 (ia 25 25 26),o 28 (fa 46 27 1),o 29 (ld 3 28),o 30 (fa 62 3 0),o 31 (ld 3 30),o 32 (bo .eql (t 29) (t 31)),o 33 (mv 32),oT 34 (fa 28 2 3) 33,oT 35 (ld 25 34) 33,oT 36 (mv 8) 33,oT 37 (ia 25 35 36) 33,oT 38 (fa 46 37 4) 33,oT 39 (ld 3 38) 33,oT 40 (bo .neq (t 39) (n 6)) 33,o 41 (.pick (.tmp 33) (.tmp 40) (.const (.bool false)))] [[],[0],[],[1,2],[3],[4],[],[6],[5,7],[8],[9],[10,9],[9],[11,12,9],[13,9],[14,9],[15,9],[9,16]]
def Hv:IR:=(S (S (R [o 17 (mv 8),o 18 (fa 28 2 3),o 19 (ld 25 18),o 20 (len 19 25),o 21 (bo .lss (t 17) (t 20))])
(.cond (t 21)
.skip
(.exit 0 [3,7])))
(S (.block 1 (S WG
(.cond (t 41)
(R [o 42 (mv 7),o 43 (mv 8),o 44 (.buildSlice 59 1 #[(0,(.tmp 43))]),o 45 (.call { callee:=(.builtin .append),args:=#[(.tmp 42),(.tmp 44)],argTypes:=#[59,59] }),o 7 (av 45)])
.skip)))
(R [o 22 (mv 8),o 23 (bo .add (t 22) (n 1)),o 8 (av 23)])))
def c29:IR:=(S (R [z 2 (bx 28 0),z 3 (bx 62 1),o 4 (an 0),o 5 (ab false),o 6 (an 0)])
(S (S (R [o 9 (ld 28 2),o 10 (cl 27 #[(t 9)] #[28]),o 11 (.unOp .not 4 (.tmp 10)),o 12 (mv 11),oF 13 (ld 62 3) 12,oF 14 (cl 62 #[(t 13)] #[62]) 12,oF 15 (.unOp .not 4 (.tmp 14)) 12,o 16 (.pick (.tmp 12) (.const (.bool true)) (.tmp 15))])
(.cond (t 16)
(S (R [o 4 (an 0),o 5 (ab false),o 6 (an 2400)])
(.ret [4,5,6]))
.skip))
(S (R [o 7 (.assign (.const (.slice none 0 0)))])
(S (S (R [o 8 (an 0)])
(.block 0 (.loop [2,3,7,8] Hv)))
(S (S (R [o 46 (mv 7),o 47 (len 46 59),o 48 (bo .eql (t 47) (n 0))])
(.cond (t 48)
(S (R [o 4 (an 0),o 5 (ab false),o 6 (an 0)])
(.ret [4,5,6]))
.skip))
(S (R [o 49 (mv 7),o 50 (fa 62 3 1),o 51 (ld 3 50),o 52 (mv 7),o 53 (len 52 59),o 54 (bo .rem (t 51) (t 53)),o 55 (ia 59 49 54),o 56 (ld 3 55),o 4 (av 56),o 5 (ab true),o 6 (an 0)])
(.ret [4,5,6])))))))
def g29:IFn:=⟨57,[.tmp 4,.tmp 5,.tmp 6],[3,4,3],c29,[],false,none⟩
def c30:IR:=(S (R [z 2 (bx 28 0),z 3 (bx 62 1),o 4 (al 28),o 5 (an 0)])
(S (R [o 11 (ld 28 2),o 12 (ld 62 3),o 13 (cl 28 #[(t 11),(t 12)] #[28,62]),o 10 (mv 13),o 14 (xt 10 0),o 15 (xt 10 1),o 16 (xt 10 2),o 6 (av 14),o 7 (av 15),o 8 (av 16)])
(S (.block 0 (S (R [o 18 (mv 8),o 19 (.binOp .neq 30 (.tmp 18) (.const (.int .i64 0)) 30),o 17 (av 19)])
(.cond (t 17)
(S (R [o 20 (.build 28 #[]),w (st 28 4 20),o 5 (an 2400)])
(.ret [4,5]))
(S (R [o 22 (mv 7),o 23 (.unOp .not 4 (.tmp 22)),o 21 (av 23)])
(.cond (t 21)
(S (R [o 24 (ld 28 2),o 25 (cl 63 #[(t 24)] #[28]),w (st 28 4 25),o 5 (an 0)])
(.ret [4,5]))
.skip)))))
(S (R [o 27 (ld 28 2),o 28 (mv 6),o 29 (cl 16 #[(t 27),(t 28)] #[28,3]),o 26 (mv 29),o 30 (xt 26 0),o 31 (xt 26 1),o 9 (al 28),w (st 28 9 30),o 8 (av 31)])
(S (S (R [o 32 (mv 8),o 33 (.binOp .neq 30 (.tmp 32) (.const (.int .i64 0)) 30)])
(.cond (t 33)
(S (R [o 34 (.build 28 #[]),w (st 28 4 34),o 5 (an 2400)])
(.ret [4,5]))
.skip))
(S (R [o 35 (ld 28 9),w (st 28 4 35),o 5 (an 0)])
(.ret [4,5])))))))
def g30:IFn:=⟨36,[.cell 4 28,.tmp 5],[28,30],c30,[],false,none⟩
def c31:IR:=(S (R [z 2 (bx 28 0),z 3 (bx 62 1),o 4 (al 28),o 5 (an 0)])
(S (R [o 12 (ld 28 2),o 13 (ld 62 3),o 14 (cl 29 #[(t 12),(t 13)] #[28,62]),o 11 (mv 14),o 15 (xt 11 0),o 16 (xt 11 1),o 17 (xt 11 2),o 6 (av 15),o 7 (av 16),o 8 (av 17)])
(S (S (R [o 18 (mv 8),o 19 (bo .neq (t 18) (n 0))])
(.cond (t 19)
(S (R [o 20 (.build 28 #[]),w (st 28 4 20),o 5 (an 2400)])
(.ret [4,5]))
.skip))
(S (S (R [o 21 (mv 7),o 22 (.unOp .not 4 (.tmp 21))])
(.cond (t 22)
(S (R [o 23 (ld 28 2),o 24 (cl 40 #[(t 23)] #[28]),w (st 28 4 24),o 5 (an 0)])
(.ret [4,5]))
.skip))
(S (R [o 26 (ld 28 2),o 27 (mv 6),o 28 (cl 17 #[(t 26),(t 27)] #[28,3]),o 25 (mv 28),o 29 (xt 25 0),o 30 (xt 25 1),o 9 (al 28),w (st 28 9 29),o 10 (av 30)])
(S (S (R [o 31 (mv 10),o 32 (bo .neq (t 31) (n 0))])
(.cond (t 32)
(S (R [o 33 (.build 28 #[]),w (st 28 4 33),o 5 (an 2400)])
(.ret [4,5]))
.skip))
(S (R [o 34 (ld 28 9),w (st 28 4 34),o 5 (an 0)])
(.ret [4,5]))))))))
def g31:IFn:=⟨35,[.cell 4 28,.tmp 5],[28,3],c31,[],false,none⟩
def WF:IR:=D [z 47 (mv 1),z 48 (bo .eql (t 47) (n 1)),z 49 (mv 48),zT 50 (mv 2) 49,z 51 (.pick (.tmp 49) (.tmp 50) (.const (.bool false))),z 52 (mv 51),zT 53 (mv 3) 52,zT 54 (cl 19 #[(t 53)] #[30]) 52,zT 55 (bo .eql (t 54) (n 0)) 52,z 56 (.pick (.tmp 52) (.tmp 55) (.const (.bool false))),z 57 (mv 56),zT 58 (mv 5) 57,zT 59 (.unOp .not 4 (.tmp 58)) 57,z 60 (.pick (.tmp 57) (.tmp 59) (.const (.bool false))),z 61 (mv 60),zT 62 (mv 6) 61,zT 63 (cl 19 #[(t 62)] #[30]) 61,zT 64 (bo .eql (t 63) (n 0)) 61,z 65 (.pick (.tmp 61) (.tmp 64) (.const (.bool false))),z 66 (mv 65),zT 67 (ld 28 7) 66,zT 68 (cl 34 #[(n 0),(n 1)] #[3,3]) 66,zT 69 (cl 18 #[(t 67),(t 68)] #[28,28]) 66,z 70 (.pick (.tmp 66) (.tmp 69) (.const (.bool false))),z 71 (mv 70),zT 72 (mv 8) 71,zT 73 (cl 19 #[(t 72)] #[30]) 71,zT 74 (bo .eql (t 73) (n 0)) 71,z 75 (.pick (.tmp 71) (.tmp 74) (.const (.bool false))),z 76 (mv 75),zT 77 (ld 28 9) 76,zT 78 (cl 33 #[] #[]) 76,zT 79 (cl 18 #[(t 77),(t 78)] #[28,28]) 76,z 80 (.pick (.tmp 76) (.tmp 79) (.const (.bool false))),z 81 (mv 80),zT 82 (mv 10) 81,zT 83 (cl 19 #[(t 82)] #[30]) 81,zT 84 (bo .eql (t 83) (n 0)) 81,z 85 (.pick (.tmp 81) (.tmp 84) (.const (.bool false))),z 86 (mv 85),zT 87 (mv 13) 86,zT 88 (cl 19 #[(t 87)] #[30]) 86,zT 89 (bo .eql (t 88) (n 2400)) 86,z 90 (.pick (.tmp 86) (.tmp 89) (.const (.bool false))),z 0 (av 90)] [[],[0],[1],[2],[2,3],[4,2],[5],[6,5,5],[7,5],[5,8],[9,7],[10],[11,10],[10,12],[13,10],[14],[15,14,14],[16,14],[14,17],[18,16],[19],[19,19],[20,21,21,19],[19,22],[23,22],[24],[25,24,24],[26,24],[24,27],[28,26],[29],[29,29],[30,31,31,29],[29,32],[33,32],[34],[35,34,34],[36,34],[34,37],[38,36],[39],[40,39,39],[41,39],[39,42],[43,41,0,1,2,3,4,5,6,7,8,9,10,11,12,13,14,15,16,17,18,19,20,21,22,23,24,25,26,27,28,29,30,31,32,33,34,35,36,37,38,39,40,41,42,43]]
def c32:IR:=(S (R [z 0 (ab false)])
(S (R [z 15 (cl 33 #[] #[]),z 16 (.build 62 #[(0,(.const (.int .i64 1))),(1,(.const (.int .i64 9)))]),z 17 (cl 28 #[(t 15),(t 16)] #[28,62]),z 14 (mv 17),z 18 (xt 14 0),z 19 (xt 14 1),z 20 (xt 14 2),z 1 (av 18),z 2 (av 19),z 3 (av 20)])
(S (R [z 22 (cl 33 #[] #[]),z 23 (.build 62 #[(0,(.const (.int .i64 2)))]),z 24 (cl 28 #[(t 22),(t 23)] #[28,62]),z 21 (mv 24),z 25 (xt 21 0),z 26 (xt 21 1),z 27 (xt 21 2),z 4 (av 25),z 5 (av 26),z 6 (av 27)])
(S (R [z 29 (cl 33 #[] #[]),z 30 (.build 62 #[]),z 31 (cl 30 #[(t 29),(t 30)] #[28,62]),z 28 (mv 31),z 32 (xt 28 0),z 33 (xt 28 1),z 7 (al 28),⟨none,st 28 7 32,none,true⟩,z 8 (av 33)])
(S (R [z 35 (cl 33 #[] #[]),z 36 (.build 62 #[(0,(.const (.int .i64 3)))]),z 37 (cl 30 #[(t 35),(t 36)] #[28,62]),z 34 (mv 37),z 38 (xt 34 0),z 39 (xt 34 1),z 9 (al 28),⟨none,st 28 9 38,none,true⟩,z 10 (av 39)])
(S (R [z 41 (cl 33 #[] #[]),z 42 (.build 62 #[(0,(.const (.int .i64 4)))]),z 43 (cl 28 #[(t 41),(t 42)] #[28,62]),z 40 (mv 43),z 44 (xt 40 0),z 45 (xt 40 1),z 46 (xt 40 2),z 11 (av 44),z 12 (av 45),z 13 (av 46)])
(S WF
(.ret [0]))))))))
def g32:IFn:=⟨91,[.tmp 0],[4],c32,[],false,none⟩
def c33:IR:=(S (R [o 0 (al 28)])
(S (R [o 4 (.buildSlice 59 2 #[(0,(.const (.int .i64 5))),(1,(.const (.int .i64 6)))]),o 5 (.buildSlice 59 1 #[(0,(.const (.int .i64 7)))]),o 6 (.buildSlice 59 1 #[(0,(.const (.int .i64 9)))]),o 7 (.build 81 #[(0,(.tmp 4)),(1,(.tmp 5)),(2,(.const (.slice none 0 0))),(3,(.tmp 6))]),o 8 (.build 52 #[(0,(.const (.int .i64 2)))]),o 9 (.build 52 #[(0,(.const (.int .i64 1)))]),o 10 (.build 52 #[(0,(.const (.int .i64 3)))]),o 11 (.buildSlice 42 3 #[(0,(.tmp 8)),(1,(.tmp 9)),(2,(.tmp 10))]),o 12 (.build 83 #[(0,(.const (.int .i64 3))),(2,(.const (.int .i64 3))),(3,(.tmp 11))]),o 13 (.build 52 #[(0,(.const (.int .i64 2))),(3,(.const (.int .i64 1)))]),o 14 (.build 52 #[(0,(.const (.int .i64 3))),(2,(.const (.int .i64 1)))]),o 15 (.buildSlice 42 2 #[(0,(.tmp 13)),(1,(.tmp 14))]),o 16 (.build 83 #[(0,(.const (.int .i64 5))),(1,(.const (.int .i64 1))),(2,(.const (.int .i64 1))),(3,(.tmp 15))]),o 17 (.buildSlice 84 2 #[(0,(.tmp 12)),(1,(.tmp 16))]),o 18 (.build 87 #[(0,(.tmp 7)),(1,(.const (.int .i64 9))),(2,(.tmp 17))]),o 19 (cl 50 #[(t 18)] #[87]),o 3 (mv 19),o 20 (xt 3 0),o 21 (xt 3 1),o 1 (al 28),w (st 28 1 20),o 2 (av 21)])
(S (R [o 22 (ld 28 1),w (st 28 0 22)])
(.ret [0]))))
def g33:IFn:=⟨23,[.cell 0 28],[28],c33,[],false,none⟩
def wN:IR:=(S (S (R [o 8 (mv 6),o 9 (mv 1),o 10 (bo .lss (t 8) (t 9))])
(.cond (t 10)
.skip
(.exit 0 [4,5])))
(S (.block 1 (R [o 14 (ld 28 5),o 15 (mv 0),o 16 (cl 17 #[(t 14),(t 15)] #[28,3]),o 13 (mv 16),o 17 (xt 13 0),o 18 (xt 13 1),w (st 28 5 17)]))
(R [o 11 (mv 6),o 12 (bo .add (t 11) (n 1)),o 6 (av 12)])))
def c34:IR:=(S (R [o 4 (al 28)])
(S (R [o 7 (cl 33 #[] #[]),o 5 (al 28),w (st 28 5 7)])
(S (S (R [o 6 (an 0)])
(.block 0 (.loop [0,1,4,5,6] wN)))
(S (R [o 19 (ld 28 5),w (st 28 4 19)])
(.ret [4])))))
def g34:IFn:=⟨20,[.cell 4 28],[28],c34,[],false,none⟩
def mM:IR:=(S (S (R [o 5 (mv 4),o 6 (bo .lss (t 5) (n 4))])
(.cond (t 6)
.skip
(.exit 0 [2,3])))
(S (.block 1 (R [o 9 (mv 4),o 10 (.buildSlice 22 0 #[]),o 11 (mv 4),o 12 (ia 23 1 11),o 13 (ld 22 12),o 14 (.call { callee:=(.builtin .append),args:=#[(.tmp 10),(.tmp 13)],argTypes:=#[22,22] }),o 15 (ia 23 3 9),w (st 22 15 14)]))
(R [o 7 (mv 4),o 8 (bo .add (t 7) (n 1)),o 4 (av 8)])))
def c35:IR:=(S (R [z 1 (bx 23 0),o 2 (al 23)])
(S (R [o 3 (al 23)])
(S (S (R [o 4 (an 0)])
(.block 0 (.loop [1,2,3,4] mM)))
(S (R [o 16 (ld 23 3),w (st 23 2 16)])
(.ret [2])))))
def g35:IFn:=⟨17,[.cell 2 23],[23],c35,[],false,none⟩
def c36:IR:=(S (R [o 1 (bx 46 0),o 2 (al 46)])
(S (R [o 3 (.buildSlice 42 0 #[]),o 4 (fa 46 1 3),o 5 (ld 42 4),o 6 (.call { callee:=(.builtin .append),args:=#[(.tmp 3),(.tmp 5)],argTypes:=#[42,42] }),o 7 (fa 46 1 3),w (st 42 7 6)])
(S (R [o 8 (.buildSlice 43 0 #[]),o 9 (fa 46 1 7),o 10 (ld 43 9),o 11 (.call { callee:=(.builtin .append),args:=#[(.tmp 8),(.tmp 10)],argTypes:=#[43,43] }),o 12 (fa 46 1 7),w (st 43 12 11)])
(S (R [o 13 (.buildSlice 44 0 #[]),o 14 (fa 46 1 8),o 15 (ld 44 14),o 16 (.call { callee:=(.builtin .append),args:=#[(.tmp 13),(.tmp 15)],argTypes:=#[44,44] }),o 17 (fa 46 1 8),w (st 44 17 16)])
(S (R [o 18 (ld 46 1),w (st 46 2 18)])
(.ret [2]))))))
def g36:IFn:=⟨19,[.cell 2 46],[46],c36,[],false,none⟩
def c37:IR:=(S (R [o 4 (ab false)])
(S (R [o 5 (mv 0),o 6 (nc 5),o 7 (ld 28 6),o 8 (cl 60 #[(t 7)] #[28]),o 9 (mv 8),oT 10 (mv 1) 9,oT 11 (bo .geq (t 10) (n 0)) 9,o 12 (.pick (.tmp 9) (.tmp 11) (.const (.bool false))),o 13 (mv 12),oT 14 (mv 1) 13,oT 15 (mv 0) 13,oT 16 (nc 15) 13,oT 17 (fa 28 16 3) 13,oT 18 (ld 25 17) 13,oT 19 (len 18 25) 13,oT 20 (bo .lss (t 14) (t 19)) 13,o 21 (.pick (.tmp 13) (.tmp 20) (.const (.bool false))),o 4 (av 21)])
(.ret [4])))
def g37:IFn:=⟨22,[.tmp 4],[4],c37,[],false,none⟩
def c38:IR:=(S (R [z 1 (bx 75 0),o 2 (al 28),o 3 (an 0)])
(S (S (R [o 4 (ld 75 1),o 5 (cl 64 #[(t 4)] #[75]),o 6 (nc 5),o 7 (fa 46 6 4),o 8 (ld 3 7)])
(.block 0 (S (R [o 10 (bo .eql (t 8) (n 0)),o 9 (av 10)])
(.cond (t 9)
(S (R [o 11 (ld 75 1),o 12 (cl 65 #[(t 11)] #[75]),o 13 (xt 12 0),o 14 (xt 12 1),w (st 28 2 13),o 3 (av 14)])
(.ret [2,3]))
(S (R [o 16 (bo .eql (t 8) (n 1)),o 15 (av 16)])
(.cond (t 15)
(S (R [o 17 (fa 75 1 0),o 18 (ld 28 17),o 19 (fa 75 1 1),o 20 (ld 3 19),o 21 (cl 66 #[(t 18),(t 20)] #[28,3]),o 22 (xt 21 0),o 23 (xt 21 1),w (st 28 2 22),o 3 (av 23)])
(.ret [2,3]))
(S (R [o 25 (bo .eql (t 8) (n 2)),o 24 (av 25)])
(.cond (t 24)
(S (R [o 26 (fa 75 1 0),o 27 (ld 28 26),o 28 (fa 75 1 1),o 29 (ld 3 28),o 30 (cl 67 #[(t 27),(t 29)] #[28,3]),o 31 (xt 30 0),o 32 (xt 30 1),w (st 28 2 31),o 3 (av 32)])
(.ret [2,3]))
(S (R [o 34 (bo .eql (t 8) (n 3)),o 33 (av 34)])
(.cond (t 33)
(S (R [o 35 (fa 75 1 0),o 36 (ld 28 35),o 37 (fa 75 1 1),o 38 (ld 3 37),o 39 (cl 68 #[(t 36),(t 38)] #[28,3]),o 40 (xt 39 0),o 41 (xt 39 1),w (st 28 2 40),o 3 (av 41)])
(.ret [2,3]))
(S (R [o 43 (bo .eql (t 8) (n 4)),o 42 (av 43)])
(.cond (t 42)
(S (R [o 44 (fa 75 1 0),o 45 (ld 28 44),o 46 (fa 75 1 1),o 47 (ld 3 46),o 48 (cl 69 #[(t 45),(t 47)] #[28,3]),o 49 (xt 48 0),o 50 (xt 48 1),w (st 28 2 49),o 3 (av 50)])
(.ret [2,3]))
(S (R [o 52 (bo .eql (t 8) (n 5)),o 51 (av 52)])
(.cond (t 51)
(S (R [o 53 (fa 75 1 0),o 54 (ld 28 53),o 55 (fa 75 1 1),o 56 (ld 3 55),o 57 (cl 70 #[(t 54),(t 56)] #[28,3]),o 58 (xt 57 0),o 59 (xt 57 1),w (st 28 2 58),o 3 (av 59)])
(.ret [2,3]))
.skip))))))))))))))
(S (R [o 60 (fa 75 1 0),o 61 (ld 28 60),o 62 (cl 63 #[(t 61)] #[28]),w (st 28 2 62),o 3 (an 0)])
(.ret [2,3]))))
def g38:IFn:=⟨63,[.cell 2 28,.tmp 3],[28,30],c38,[],false,none⟩
def c39:IR:=(S (R [z 2 (bx 28 0),o 4 (ab false)])
(S (R [o 5 (ld 28 2),o 6 (cl 27 #[(t 5)] #[28]),o 7 (mv 6),oT 8 (mv 1) 7,oT 9 (bo .geq (t 8) (n 0)) 7,o 10 (.pick (.tmp 7) (.tmp 9) (.const (.bool false))),o 11 (mv 10),oT 12 (mv 1) 11,oT 13 (fa 28 2 3) 11,oT 14 (ld 25 13) 11,oT 15 (len 14 25) 11,oT 16 (bo .lss (t 12) (t 15)) 11,o 17 (.pick (.tmp 11) (.tmp 16) (.const (.bool false))),o 4 (av 17)])
(.ret [4])))
def g39:IFn:=⟨18,[.tmp 4],[4],c39,[],false,none⟩
def WE:IR:=D [o 18 (fa 28 3 3),o 19 (ld 25 18),o 20 (fa 28 1 3),o 21 (ld 25 20),o 22 (mv 4),o 23 (ia 25 21 22),o 24 (ld 46 23),o 25 (cl 72 #[(t 24)] #[46]),o 26 (.buildSlice 25 1 #[(0,(.tmp 25))]),o 27 (.call { callee:=(.builtin .append),args:=#[(.tmp 19),(.tmp 26)],argTypes:=#[25,25] }),o 28 (fa 28 3 3),w (st 25 28 27)] [[],[0],[],[2],[],[3,4],[5],[6],[7],[1,8,7],[0,1,2,3,4,5,6,7,8,9],[10,9,9,0,1,2,3,4,5,6,7,8,9]]
def SS:IR:=(S (S (R [o 11 (mv 4),o 12 (fa 28 1 3),o 13 (ld 25 12),o 14 (len 13 25),o 15 (bo .lss (t 11) (t 14))])
(.cond (t 15)
.skip
(.exit 0 [1,2,3])))
(S (.block 1 WE)
(R [o 16 (mv 4),o 17 (bo .add (t 16) (n 1)),o 4 (av 17)])))
def c40:IR:=(S (R [z 1 (bx 28 0),o 2 (al 28)])
(S (R [o 5 (ld 28 1),o 3 (al 28),w (st 28 3 5)])
(S (R [o 6 (fa 28 1 0),o 7 (ld 23 6),o 8 (cl 71 #[(t 7)] #[23]),o 9 (fa 28 3 0),w (st 23 9 8)])
(S (R [o 10 (fa 28 3 3),w (.store 25 (.tmp 10) (.const (.slice none 0 0)))])
(S (S (R [o 4 (an 0)])
(.block 0 (.loop [1,2,3,4] SS)))
(S (R [o 29 (.buildSlice 26 0 #[]),o 30 (fa 28 1 4),o 31 (ld 26 30),o 32 (.call { callee:=(.builtin .append),args:=#[(.tmp 29),(.tmp 31)],argTypes:=#[26,26] }),o 33 (fa 28 3 4),w (st 26 33 32)])
(S (R [o 34 (ld 28 3),w (st 28 2 34)])
(.ret [2]))))))))
def g40:IFn:=⟨35,[.cell 2 28],[28],c40,[],false,none⟩
def WD:IR:=D [o 62 (ld 28 2),o 63 (mv 1),o 64 (fa 46 6 3),o 65 (ld 42 64),o 66 (fa 46 6 5),o 67 (ld 3 66),o 68 (ia 42 65 67),o 69 (fa 52 68 1),o 70 (ld 3 69),o 71 (cl 79 #[(t 62),(t 63),(n 2),(t 70)] #[28,3,3,3]),o 72 (xt 71 0),o 73 (xt 71 1),w (st 28 4 72),o 5 (av 73)] [[],[],[],[2],[],[4],[3,5],[6],[7],[0,1,8],[9],[9],[10,9,0,1,2,3,4,5,6,7,8,9,10,11],[11,12,0,1,2,3,4,5,6,7,8,9,10,11,12]]
def c41:IR:=(S (R [z 2 (bx 28 0),o 4 (al 28),o 5 (an 0)])
(S (R [o 10 (fa 28 2 3),o 11 (ld 25 10),o 12 (mv 1),o 13 (ia 25 11 12),o 14 (ld 46 13),o 6 (al 46),w (st 46 6 14)])
(S (S (R [o 15 (ld 28 2),o 16 (mv 1),o 17 (cl 73 #[(t 15),(t 16)] #[28,3])])
(.block 0 (S (R [o 19 (bo .eql (t 17) (n 2)),o 18 (av 19)])
(.cond (t 18)
(S (R [o 21 (ld 28 2),o 22 (mv 1),o 23 (cl 74 #[(t 21),(t 22)] #[28,3]),o 20 (mv 23),o 24 (xt 20 0),o 25 (xt 20 1),o 7 (av 24),o 8 (av 25)])
(S (S (R [o 26 (mv 7)])
(.cond (t 26)
(S (R [o 27 (ld 28 2),o 28 (mv 1),o 29 (cl 75 #[(t 27),(t 28)] #[28,3]),o 30 (xt 29 0),o 31 (xt 29 1),w (st 28 4 30),o 5 (av 31)])
(.ret [4,5]))
.skip))
(S (R [o 32 (ld 28 2),o 33 (mv 1),o 34 (cl 76 #[(t 32),(t 33)] #[28,3]),o 35 (xt 34 0),o 36 (xt 34 1),w (st 28 4 35),o 5 (av 36)])
(.ret [4,5]))))
(S (R [o 38 (bo .eql (t 17) (n 3)),o 37 (av 38)])
(.cond (t 37)
(S (R [o 39 (ld 28 2),o 40 (mv 1),o 41 (cl 77 #[(t 39),(t 40)] #[28,3]),o 42 (xt 41 0),o 43 (xt 41 1),w (st 28 4 42),o 5 (av 43)])
(.ret [4,5]))
(S (S (R [o 45 (bo .eql (t 17) (n 0)),o 44 (av 45)])
(.cond (t 44)
.skip
(S (R [o 46 (bo .eql (t 17) (n 1)),o 44 (av 46)])
(.cond (t 44)
.skip
(R [o 47 (bo .eql (t 17) (n 4)),o 44 (av 47)])))))
(.cond (t 44)
(S (R [o 48 (ld 28 2),o 49 (mv 1),o 50 (cl 78 #[(t 48),(t 49)] #[28,3]),o 51 (xt 50 0),o 52 (xt 50 1),w (st 28 4 51),o 5 (av 52)])
(.ret [4,5]))
(S (R [o 54 (bo .eql (t 17) (n 5)),o 53 (av 54)])
(.cond (t 53)
(S (R [o 55 (ld 28 2),o 56 (mv 1),o 57 (cl 46 #[(t 55),(t 56)] #[28,3]),o 58 (xt 57 0),o 59 (xt 57 1),w (st 28 4 58),o 5 (av 59)])
(.ret [4,5]))
(S (R [o 61 (bo .eql (t 17) (n 6)),o 60 (av 61)])
(.cond (t 60)
(S WD
(.ret [4,5]))
.skip))))))))))))
(S (S (R [o 74 (fa 46 6 8),o 75 (ld 44 74),o 76 (fa 46 6 1),o 77 (ld 3 76),o 78 (cl 80 #[(t 75),(t 77)] #[44,3]),o 79 (.unOp .not 4 (.tmp 78))])
(.cond (t 79)
(S (R [o 80 (ld 28 2),o 81 (mv 1),o 82 (cl 79 #[(t 80),(t 81),(n 3),(n 0)] #[28,3,3,3]),o 83 (xt 82 0),o 84 (xt 82 1),w (st 28 4 83),o 5 (av 84)])
(.ret [4,5]))
.skip))
(S (R [o 85 (ld 28 2),o 86 (cl 40 #[(t 85)] #[28]),o 9 (al 28),w (st 28 9 86)])
(S (R [o 87 (fa 28 9 3),o 88 (ld 25 87),o 89 (mv 1),o 90 (ia 25 88 89),o 91 (fa 46 90 9),w (.store 3 (.tmp 91) (.const (.int .i64 0)))])
(S (R [o 92 (fa 28 9 3),o 93 (ld 25 92),o 94 (mv 1),o 95 (ia 25 93 94),o 96 (fa 46 95 4),w (.store 3 (.tmp 96) (.const (.int .i64 1)))])
(S (S (R [o 97 (fa 46 6 8),o 98 (ld 44 97),o 99 (len 98 44),o 100 (bo .eql (t 99) (n 0))])
(.cond (t 100)
(R [o 101 (fa 28 9 3),o 102 (ld 25 101),o 103 (mv 1),o 104 (ia 25 102 103),o 105 (fa 46 104 4),w (.store 3 (.tmp 105) (.const (.int .i64 3)))])
.skip))
(S (R [o 106 (ld 28 9),w (st 28 4 106),o 5 (an 0)])
(.ret [4,5]))))))))))
def g41:IFn:=⟨107,[.cell 4 28,.tmp 5],[28,3],c41,[],false,none⟩
def WC:IR:=D [o 28 (fa 106 7 0),o 29 (ld 3 28),o 30 (fa 28 2 0),o 31 (ia 23 30 29),o 32 (ld 22 31),o 33 (fa 106 7 1),o 34 (ld 3 33),o 35 (ia 22 32 34),o 36 (ld 50 35),o 37 (fa 46 6 0),o 38 (ld 3 37),o 39 (cl 82 #[(t 36),(t 38)] #[50,3]),o 27 (mv 39),o 40 (xt 27 0),o 41 (xt 27 1),o 8 (al 50),w (st 50 8 40),o 9 (av 41)] [[],[0],[],[2,1],[3],[],[5],[4,6],[7],[],[9],[8,10],[11],[12],[12],[],[15,13,11,0,1,2,3,4,5,6,7,8,9,10,11,12,13,15],[14,16,0,1,2,3,4,5,6,7,8,9,10,11,12,13,14,15,16]]
def WB:IR:=D [o 51 (fa 106 7 0),o 52 (ld 3 51),o 53 (fa 28 10 0),o 54 (ia 23 53 52),o 55 (ld 22 54),o 56 (fa 106 7 1),o 57 (ld 3 56),o 58 (ld 50 8),o 59 (ia 22 55 57),w (st 50 59 58)] [[],[0],[],[2,1],[3],[],[5],[],[4,6,0,1,2,3,4,5,6,7],[8,7,0,1,2,3,4,5,6,7]]
def c42:IR:=(S (R [z 2 (bx 28 0),o 4 (al 28),o 5 (an 0)])
(S (S (R [o 11 (ld 28 2),o 12 (mv 1),o 13 (cl 81 #[(t 11),(t 12),(n 1)] #[28,3,3]),o 14 (.unOp .not 4 (.tmp 13))])
(.cond (t 14)
(S (R [o 15 (.build 28 #[]),w (st 28 4 15),o 5 (an 1800)])
(.ret [4,5]))
.skip))
(S (R [o 16 (fa 28 2 3),o 17 (ld 25 16),o 18 (mv 1),o 19 (ia 25 17 18),o 20 (ld 46 19),o 6 (al 46),w (st 46 6 20)])
(S (R [o 21 (fa 46 6 8),o 22 (ld 44 21),o 23 (fa 46 6 9),o 24 (ld 3 23),o 25 (ia 44 22 24),o 26 (ld 106 25),o 7 (al 106),w (st 106 7 26)])
(S WC
(S (S (R [o 42 (mv 9),o 43 (bo .neq (t 42) (n 0))])
(.cond (t 43)
(S (R [o 44 (ld 28 2),o 45 (mv 1),o 46 (cl 83 #[(t 44),(t 45),(n 3)] #[28,3,3]),o 47 (xt 46 0),o 48 (xt 46 1),w (st 28 4 47),o 5 (av 48)])
(.ret [4,5]))
.skip))
(S (R [o 49 (ld 28 2),o 50 (cl 40 #[(t 49)] #[28]),o 10 (al 28),w (st 28 10 50)])
(S WB
(S (R [o 60 (fa 28 10 3),o 61 (ld 25 60),o 62 (mv 1),o 63 (ia 25 61 62),o 64 (fa 46 63 9),o 65 (ld 3 64),o 66 (bo .add (t 65) (n 1)),o 67 (ia 25 61 62),o 68 (fa 46 67 9),w (st 3 68 66)])
(S (S (R [o 69 (fa 46 6 9),o 70 (ld 3 69),o 71 (bo .add (t 70) (n 1)),o 72 (fa 46 6 8),o 73 (ld 44 72),o 74 (len 73 44),o 75 (bo .eql (t 71) (t 74))])
(.cond (t 75)
(R [o 76 (fa 28 10 3),o 77 (ld 25 76),o 78 (mv 1),o 79 (ia 25 77 78),o 80 (fa 46 79 4),w (.store 3 (.tmp 80) (.const (.int .i64 2)))])
.skip))
(S (R [o 81 (ld 28 10),w (st 28 4 81),o 5 (an 0)])
(.ret [4,5]))))))))))))
def g42:IFn:=⟨82,[.cell 4 28,.tmp 5],[28,3],c42,[],false,none⟩
def WA:IR:=D [o 25 (fa 28 2 1),o 26 (ld 24 25),o 27 (fa 28 2 3),o 28 (ld 25 27),o 29 (mv 1),o 30 (ia 25 28 29),o 31 (fa 46 30 1),o 32 (ld 3 31),o 33 (fa 28 2 2),o 34 (ld 3 33),o 35 (cl 84 #[(t 26),(t 32),(t 34)] #[24,3,3]),o 24 (mv 35),o 36 (xt 24 0),o 37 (xt 24 1),o 38 (xt 24 2),o 6 (al 24),w (st 24 6 36),o 7 (av 37),o 8 (av 38)] [[],[0],[],[2],[],[3,4],[5],[6],[],[8],[1,7,9],[10],[11],[11],[11],[],[15,12,10,0,1,2,3,4,5,6,7,8,9,10,11,12,15],[13,16,0,1,2,3,4,5,6,7,8,9,10,11,12,13,15,16],[14,17,0,1,2,3,4,5,6,7,8,9,10,11,12,13,14,15,16,17]]
def c43:IR:=(S (R [z 2 (bx 28 0),o 4 (al 28),o 5 (an 0)])
(S (S (R [o 10 (ld 28 2),o 11 (mv 1),o 12 (cl 39 #[(t 10),(t 11)] #[28,3]),o 13 (.unOp .not 4 (.tmp 12)),o 14 (mv 13),oF 15 (fa 28 2 3) 14,oF 16 (ld 25 15) 14,oF 17 (mv 1) 14,oF 18 (ia 25 16 17) 14,oF 19 (fa 46 18 4) 14,oF 20 (ld 3 19) 14,oF 21 (bo .neq (t 20) (n 2)) 14,o 22 (.pick (.tmp 14) (.const (.bool true)) (.tmp 21))])
(.cond (t 22)
(S (R [o 23 (.build 28 #[]),w (st 28 4 23),o 5 (an 1900)])
(.ret [4,5]))
.skip))
(S WA
(S (S (R [o 39 (mv 8),o 40 (bo .neq (t 39) (n 0))])
(.cond (t 40)
(S (R [o 41 (ld 28 2),o 42 (mv 1),o 43 (cl 79 #[(t 41),(t 42),(n 5),(n 0)] #[28,3,3,3]),o 44 (xt 43 0),o 45 (xt 43 1),w (st 28 4 44),o 5 (av 45)])
(.ret [4,5]))
.skip))
(S (R [o 46 (ld 28 2),o 47 (cl 40 #[(t 46)] #[28]),o 9 (al 28),w (st 28 9 47)])
(S (R [o 48 (ld 24 6),o 49 (fa 28 9 1),w (st 24 49 48)])
(S (R [o 50 (fa 28 9 3),o 51 (ld 25 50),o 52 (mv 1),o 53 (mv 7),o 54 (ia 25 51 52),o 55 (fa 46 54 10),w (st 3 55 53)])
(S (R [o 56 (fa 28 9 3),o 57 (ld 25 56),o 58 (mv 1),o 59 (ia 25 57 58),o 60 (fa 46 59 4),w (.store 3 (.tmp 60) (.const (.int .i64 3)))])
(S (R [o 61 (ld 28 9),w (st 28 4 61),o 5 (an 0)])
(.ret [4,5]))))))))))
def g43:IFn:=⟨62,[.cell 4 28,.tmp 5],[28,3],c43,[],false,none⟩
def c44:IR:=(S (R [z 2 (bx 28 0),o 4 (al 28),o 5 (an 0)])
(S (S (R [o 10 (ld 28 2),o 11 (mv 1),o 12 (cl 39 #[(t 10),(t 11)] #[28,3]),o 13 (.unOp .not 4 (.tmp 12)),o 14 (mv 13),oF 15 (fa 28 2 3) 14,oF 16 (ld 25 15) 14,oF 17 (mv 1) 14,oF 18 (ia 25 16 17) 14,oF 19 (fa 46 18 4) 14,oF 20 (ld 3 19) 14,oF 21 (bo .neq (t 20) (n 3)) 14,o 22 (.pick (.tmp 14) (.const (.bool true)) (.tmp 21))])
(.cond (t 22)
(S (R [o 23 (.build 28 #[]),w (st 28 4 23),o 5 (an 2000)])
(.ret [4,5]))
.skip))
(S (R [o 24 (fa 28 2 3),o 25 (ld 25 24),o 26 (mv 1),o 27 (ia 25 25 26),o 28 (ld 46 27),o 6 (al 46),w (st 46 6 28)])
(S (R [o 30 (fa 28 2 0),o 31 (ld 23 30),o 32 (fa 46 6 7),o 33 (ld 43 32),o 34 (fa 46 6 0),o 35 (ld 3 34),o 36 (cl 85 #[(t 31),(t 33),(t 35)] #[23,43,3]),o 29 (mv 36),o 37 (xt 29 0),o 38 (xt 29 1),o 7 (av 37),o 8 (av 38)])
(S (S (R [o 39 (mv 7),o 40 (.unOp .not 4 (.tmp 39))])
(.cond (t 40)
(S (R [o 41 (ld 28 2),o 42 (mv 1),o 43 (cl 83 #[(t 41),(t 42),(n 3)] #[28,3,3]),o 44 (xt 43 0),o 45 (xt 43 1),w (st 28 4 44),o 5 (av 45)])
(.ret [4,5]))
.skip))
(S (S (R [o 46 (fa 46 6 8),o 47 (ld 44 46),o 48 (len 47 44),o 49 (bo .eql (t 48) (n 0))])
(.cond (t 49)
(S (R [o 50 (ld 28 2),o 51 (mv 1),o 52 (cl 79 #[(t 50),(t 51),(n 1),(n 0)] #[28,3,3,3]),o 53 (xt 52 0),o 54 (xt 52 1),w (st 28 4 53),o 5 (av 54)])
(.ret [4,5]))
.skip))
(S (R [o 55 (ld 28 2),o 56 (cl 40 #[(t 55)] #[28]),o 9 (al 28),w (st 28 9 56)])
(S (R [o 57 (fa 28 9 3),o 58 (ld 25 57),o 59 (mv 1),o 60 (ia 25 58 59),o 61 (fa 46 60 9),w (.store 3 (.tmp 61) (.const (.int .i64 0)))])
(S (R [o 62 (fa 28 9 3),o 63 (ld 25 62),o 64 (mv 1),o 65 (ia 25 63 64),o 66 (fa 46 65 4),w (.store 3 (.tmp 66) (.const (.int .i64 4)))])
(S (R [o 67 (ld 28 9),w (st 28 4 67),o 5 (an 0)])
(.ret [4,5])))))))))))
def g44:IFn:=⟨68,[.cell 4 28,.tmp 5],[28,3],c44,[],false,none⟩
def Wz:IR:=D [o 28 (fa 106 7 0),o 29 (ld 3 28),o 30 (fa 28 2 0),o 31 (ia 23 30 29),o 32 (ld 22 31),o 33 (fa 106 7 1),o 34 (ld 3 33),o 35 (ia 22 32 34),o 36 (ld 50 35),o 37 (fa 106 7 2),o 38 (ld 3 37),o 39 (fa 46 6 10),o 40 (ld 3 39),o 41 (cl 86 #[(t 36),(t 38),(t 40)] #[50,3,3]),o 27 (mv 41),o 42 (xt 27 0),o 43 (xt 27 1),o 8 (al 50),w (st 50 8 42),o 9 (av 43)] [[],[0],[],[2,1],[3],[],[5],[4,6],[7],[],[9],[],[11],[8,10,12],[13],[14],[14],[],[17,15,13,0,1,2,3,4,5,6,7,8,9,10,11,12,13,14,15,17],[16,18,0,1,2,3,4,5,6,7,8,9,10,11,12,13,14,15,16,17,18]]
def Wy:IR:=D [o 46 (fa 106 7 0),o 47 (ld 3 46),o 48 (fa 28 10 0),o 49 (ia 23 48 47),o 50 (ld 22 49),o 51 (fa 106 7 1),o 52 (ld 3 51),o 53 (ld 50 8),o 54 (ia 22 50 52),w (st 50 54 53)] [[],[0],[],[2,1],[3],[],[5],[],[4,6,0,1,2,3,4,5,6,7],[8,7,0,1,2,3,4,5,6,7]]
def c45:IR:=(S (R [z 2 (bx 28 0),o 4 (al 28),o 5 (an 0)])
(S (S (R [o 11 (ld 28 2),o 12 (mv 1),o 13 (cl 81 #[(t 11),(t 12),(n 4)] #[28,3,3]),o 14 (.unOp .not 4 (.tmp 13))])
(.cond (t 14)
(S (R [o 15 (.build 28 #[]),w (st 28 4 15),o 5 (an 2100)])
(.ret [4,5]))
.skip))
(S (R [o 16 (fa 28 2 3),o 17 (ld 25 16),o 18 (mv 1),o 19 (ia 25 17 18),o 20 (ld 46 19),o 6 (al 46),w (st 46 6 20)])
(S (R [o 21 (fa 46 6 8),o 22 (ld 44 21),o 23 (fa 46 6 9),o 24 (ld 3 23),o 25 (ia 44 22 24),o 26 (ld 106 25),o 7 (al 106),w (st 106 7 26)])
(S Wz
(S (R [o 44 (ld 28 2),o 45 (cl 40 #[(t 44)] #[28]),o 10 (al 28),w (st 28 10 45)])
(S Wy
(S (R [o 55 (fa 28 10 3),o 56 (ld 25 55),o 57 (mv 1),o 58 (ia 25 56 57),o 59 (fa 46 58 9),o 60 (ld 3 59),o 61 (bo .add (t 60) (n 1)),o 62 (ia 25 56 57),o 63 (fa 46 62 9),w (st 3 63 61)])
(S (S (R [o 64 (fa 46 6 9),o 65 (ld 3 64),o 66 (bo .add (t 65) (n 1)),o 67 (fa 46 6 8),o 68 (ld 44 67),o 69 (len 68 44),o 70 (bo .eql (t 66) (t 69))])
(.cond (t 70)
(S (R [o 71 (ld 28 10),o 72 (mv 1),o 73 (cl 79 #[(t 71),(t 72),(n 1),(n 0)] #[28,3,3,3]),o 74 (xt 73 0),o 75 (xt 73 1),w (st 28 4 74),o 5 (av 75)])
(.ret [4,5]))
.skip))
(S (R [o 76 (ld 28 10),w (st 28 4 76),o 5 (an 0)])
(.ret [4,5])))))))))))
def g45:IFn:=⟨77,[.cell 4 28,.tmp 5],[28,3],c45,[],false,none⟩
def Wx:IR:=D [o 53 (ld 28 6),o 54 (mv 1),o 55 (fa 28 2 3),o 56 (ld 25 55),o 57 (mv 1),o 58 (ia 25 56 57),o 59 (fa 46 58 7),o 60 (ld 43 59),o 61 (len 60 43),o 62 (cl 87 #[(t 53),(t 54),(n 4),(t 61)] #[28,3,3,3]),w (st 28 4 62),o 5 (an 0)] [[],[],[],[2],[],[3,4],[5],[6],[7],[0,1,8],[9,9,0,1,2,3,4,5,6,7,8,9],[10,0,1,2,3,4,5,6,7,8,9,10]]
def Ww:IR:=D [o 64 (fa 28 2 0),o 65 (ld 23 64),o 66 (fa 28 2 3),o 67 (ld 25 66),o 68 (mv 1),o 69 (ia 25 67 68),o 70 (fa 46 69 7),o 71 (ld 43 70),o 72 (cl 88 #[(t 65),(t 71)] #[23,43]),o 63 (mv 72),o 73 (xt 63 0),o 74 (xt 63 1),o 7 (av 73),o 8 (av 74)] [[],[0],[],[2],[],[3,4],[5],[6],[1,7],[8],[9],[9],[10,8,0,1,2,3,4,5,6,7,8,9,10],[11,12,0,1,2,3,4,5,6,7,8,9,10,11,12]]
def c46:IR:=(S (R [z 2 (bx 28 0),o 4 (al 28),o 5 (an 0)])
(S (S (R [o 9 (ld 28 2),o 10 (mv 1),o 11 (cl 39 #[(t 9),(t 10)] #[28,3]),o 12 (.unOp .not 4 (.tmp 11)),o 13 (mv 12),oF 14 (fa 28 2 3) 13,oF 15 (ld 25 14) 13,oF 16 (mv 1) 13,oF 17 (ia 25 15 16) 13,oF 18 (fa 46 17 4) 13,oF 19 (ld 3 18) 13,oF 20 (bo .neq (t 19) (n 5)) 13,oF 21 (mv 20) 13,oT 22 (ld 28 2) 21,oT 23 (mv 1) 21,oT 24 (cl 73 #[(t 22),(t 23)] #[28,3]) 21,oT 25 (bo .neq (t 24) (n 5)) 21,oF 26 (.pick (.tmp 21) (.tmp 25) (.const (.bool false))) 13,o 27 (.pick (.tmp 13) (.const (.bool true)) (.tmp 26))])
(.cond (t 27)
(S (R [o 28 (.build 28 #[]),w (st 28 4 28),o 5 (an 2200)])
(.ret [4,5]))
.skip))
(S (R [o 29 (ld 28 2),o 30 (cl 40 #[(t 29)] #[28]),o 6 (al 28),w (st 28 6 30)])
(S (S (R [o 31 (fa 28 2 3),o 32 (ld 25 31),o 33 (mv 1),o 34 (ia 25 32 33),o 35 (fa 46 34 4),o 36 (ld 3 35),o 37 (bo .eql (t 36) (n 0))])
(.cond (t 37)
(S (R [o 38 (fa 28 6 3),o 39 (ld 25 38),o 40 (mv 1),o 41 (ia 25 39 40),o 42 (fa 46 41 8),w (.store 44 (.tmp 42) (.const (.slice none 0 0)))])
(S (R [o 43 (fa 28 6 3),o 44 (ld 25 43),o 45 (mv 1),o 46 (ia 25 44 45),o 47 (fa 46 46 9),w (.store 3 (.tmp 47) (.const (.int .i64 0)))])
(S (R [o 48 (fa 28 6 3),o 49 (ld 25 48),o 50 (mv 1),o 51 (ia 25 49 50),o 52 (fa 46 51 4),w (.store 3 (.tmp 52) (.const (.int .i64 5)))])
(S Wx
(.ret [4,5])))))
.skip))
(S Ww
(S (S (R [o 75 (mv 7)])
(.cond (t 75)
(S (R [o 76 (ld 28 2),o 77 (mv 1),o 78 (cl 83 #[(t 76),(t 77),(n 5)] #[28,3,3]),o 79 (xt 78 0),o 80 (xt 78 1),w (st 28 4 79),o 5 (av 80)])
(.ret [4,5]))
.skip))
(S (R [o 81 (ld 28 6),w (st 28 4 81),o 5 (an 0)])
(.ret [4,5]))))))))
def g46:IFn:=⟨82,[.cell 4 28,.tmp 5],[28,3],c46,[],false,none⟩
def mL:IR:=(S (S (R [o 3 (mv 2),o 4 (bo .lss (t 3) (n 4))])
(.cond (t 4)
.skip
(.exit 0 [])))
(S (.block 1 (R [o 7 (mv 2),o 8 (ia 23 1 7),o 9 (ld 22 8),o 10 (cl 89 #[(t 9)] #[22])]))
(R [o 5 (mv 2),o 6 (bo .add (t 5) (n 1)),o 2 (av 6)])))
def c47:IR:=(S (R [o 1 (bx 23 0)])
(S (R [o 2 (an 0)])
(.block 0 (.loop [1,2] mL))))
def g47:IFn:=⟨11,[],[],c47,[true],false,none⟩
def c48:IR:=(S (R [o 1 (bx 46 0)])
(S (R [o 2 (fa 46 1 3),o 3 (ld 42 2),o 4 (cl 90 #[(t 3)] #[42])])
(S (R [o 5 (fa 46 1 7),o 6 (ld 43 5),o 7 (cl 91 #[(t 6)] #[43])])
(R [o 8 (fa 46 1 8),o 9 (ld 44 8),o 10 (cl 92 #[(t 9)] #[44])]))))
def g48:IFn:=⟨11,[],[],c48,[true],false,none⟩
def SR:IR:=(S (S (R [o 3 (mv 2),o 4 (mv 0),o 5 (len 4 26),o 6 (bo .lss (t 3) (t 5))])
(.cond (t 6)
.skip
(.exit 0 [])))
(S (.block 1 (R [o 9 (mv 0),o 10 (mv 2),o 11 (mv 0),o 12 (mv 2),o 13 (ia 26 11 12),o 14 (fa 90 13 0),o 15 (ld 3 14),o 16 (bo .xor (t 15) (n 90)),o 17 (ia 26 9 10),o 18 (fa 90 17 0),w (st 3 18 16)]))
(R [o 7 (mv 2),o 8 (bo .add (t 7) (n 1)),o 2 (av 8)])))
def c49:IR:=(S (R [o 2 (an 0)])
(.block 0 (.loop [0,2] SR)))
def g49:IFn:=⟨19,[],[],c49,[true],false,none⟩
def wM:IR:=(S (S (R [o 20 (mv 7),o 21 (fa 87 1 2),o 22 (ld 84 21),o 23 (len 22 84),o 24 (bo .lss (t 20) (t 23))])
(.cond (t 24)
.skip
(.exit 0 [2,5,6])))
(S (.block 1 (S (R [o 28 (fa 87 1 2),o 29 (ld 84 28),o 30 (mv 7),o 31 (ia 84 29 30),o 32 (ld 83 31),o 33 (cl 94 #[(t 32)] #[83]),o 27 (mv 33),o 34 (xt 27 0),o 35 (xt 27 1),o 8 (al 46),w (st 46 8 34),o 9 (av 35)])
(S (S (R [o 36 (mv 9),o 37 (bo .neq (t 36) (n 0))])
(.cond (t 37)
(S (R [o 38 (.build 28 #[]),w (st 28 2 38),o 3 (an 1200)])
(.ret [2,3]))
.skip))
(R [o 39 (fa 28 6 3),o 40 (ld 25 39),o 41 (ld 46 8),o 42 (.buildSlice 25 1 #[(0,(.tmp 41))]),o 43 (.call { callee:=(.builtin .append),args:=#[(.tmp 40),(.tmp 42)],argTypes:=#[25,25] }),o 44 (fa 28 6 3),w (st 25 44 43)]))))
(R [o 25 (mv 7),o 26 (bo .add (t 25) (n 1)),o 7 (av 26)])))
def c50:IR:=(S (R [z 1 (bx 87 0),o 2 (al 28),o 3 (an 0)])
(S (R [o 11 (fa 87 1 0),o 12 (ld 81 11),o 13 (cl 93 #[(t 12)] #[81]),o 10 (mv 13),o 14 (xt 10 0),o 15 (xt 10 1),o 4 (al 23),w (st 23 4 14),o 5 (av 15)])
(S (R [o 16 (ld 23 4),o 17 (fa 87 1 1),o 18 (ld 3 17),o 19 (.build 28 #[(0,(.tmp 16)),(2,(.tmp 18))]),o 6 (al 28),w (st 28 6 19)])
(S (S (R [o 7 (an 0)])
(.block 0 (.loop [1,2,5,6,7] wM)))
(S (S (R [o 45 (mv 5),o 46 (bo .neq (t 45) (n 0)),o 47 (mv 46),oF 48 (ld 28 6) 47,oF 49 (cl 27 #[(t 48)] #[28]) 47,oF 50 (.unOp .not 4 (.tmp 49)) 47,o 51 (.pick (.tmp 47) (.const (.bool true)) (.tmp 50))])
(.cond (t 51)
(S (R [o 52 (.build 28 #[]),w (st 28 2 52),o 3 (an 1200)])
(.ret [2,3]))
.skip))
(S (R [o 53 (ld 28 6),w (st 28 2 53),o 3 (an 0)])
(.ret [2,3])))))))
def g50:IFn:=⟨54,[.cell 2 28,.tmp 3],[28,3],c50,[],false,none⟩
def Wv:IR:=D [o 17 (mv 0),o 18 (mv 5),o 19 (ia 22 17 18),o 20 (ld 50 19),o 21 (mv 1),o 22 (mv 5),o 23 (ia 22 21 22),o 24 (ld 50 23),o 25 (.binOp .neq 50 (.tmp 20) (.tmp 24) 50)] [[],[],[0,1],[2],[],[],[4,5],[6],[3,7]]
def OQ:IR:=(S (S (R [o 11 (mv 5),o 12 (mv 0),o 13 (len 12 22),o 14 (bo .lss (t 11) (t 13))])
(.cond (t 14)
.skip
(.exit 0 [])))
(S (.block 1 (S Wv
(.cond (t 25)
(S (R [o 4 (ab false)])
(.ret [4]))
.skip)))
(R [o 15 (mv 5),o 16 (bo .add (t 15) (n 1)),o 5 (av 16)])))
def c51:IR:=(S (R [o 4 (ab false)])
(S (S (R [o 6 (mv 0),o 7 (len 6 22),o 8 (mv 1),o 9 (len 8 22),o 10 (bo .neq (t 7) (t 9))])
(.cond (t 10)
(S (R [o 4 (ab false)])
(.ret [4]))
.skip))
(S (S (R [o 5 (an 0)])
(.block 0 (.loop [0,1,5] OQ)))
(S (R [o 4 (ab true)])
(.ret [4])))))
def g51:IFn:=⟨26,[.tmp 4],[4],c51,[],false,none⟩
def Wu:IR:=D [o 17 (mv 0),o 18 (mv 5),o 19 (ia 42 17 18),o 20 (ld 52 19),o 21 (mv 1),o 22 (mv 5),o 23 (ia 42 21 22),o 24 (ld 52 23),o 25 (.binOp .neq 52 (.tmp 20) (.tmp 24) 52)] [[],[],[0,1],[2],[],[],[4,5],[6],[3,7]]
def OP:IR:=(S (S (R [o 11 (mv 5),o 12 (mv 0),o 13 (len 12 42),o 14 (bo .lss (t 11) (t 13))])
(.cond (t 14)
.skip
(.exit 0 [])))
(S (.block 1 (S Wu
(.cond (t 25)
(S (R [o 4 (ab false)])
(.ret [4]))
.skip)))
(R [o 15 (mv 5),o 16 (bo .add (t 15) (n 1)),o 5 (av 16)])))
def c52:IR:=(S (R [o 4 (ab false)])
(S (S (R [o 6 (mv 0),o 7 (len 6 42),o 8 (mv 1),o 9 (len 8 42),o 10 (bo .neq (t 7) (t 9))])
(.cond (t 10)
(S (R [o 4 (ab false)])
(.ret [4]))
.skip))
(S (S (R [o 5 (an 0)])
(.block 0 (.loop [0,1,5] OP)))
(S (R [o 4 (ab true)])
(.ret [4])))))
def g52:IFn:=⟨26,[.tmp 4],[4],c52,[],false,none⟩
def Wt:IR:=D [o 17 (mv 0),o 18 (mv 5),o 19 (ia 43 17 18),o 20 (ld 125 19),o 21 (mv 1),o 22 (mv 5),o 23 (ia 43 21 22),o 24 (ld 125 23),o 25 (.binOp .neq 125 (.tmp 20) (.tmp 24) 125)] [[],[],[0,1],[2],[],[],[4,5],[6],[3,7]]
def OO:IR:=(S (S (R [o 11 (mv 5),o 12 (mv 0),o 13 (len 12 43),o 14 (bo .lss (t 11) (t 13))])
(.cond (t 14)
.skip
(.exit 0 [])))
(S (.block 1 (S Wt
(.cond (t 25)
(S (R [o 4 (ab false)])
(.ret [4]))
.skip)))
(R [o 15 (mv 5),o 16 (bo .add (t 15) (n 1)),o 5 (av 16)])))
def c53:IR:=(S (R [o 4 (ab false)])
(S (S (R [o 6 (mv 0),o 7 (len 6 43),o 8 (mv 1),o 9 (len 8 43),o 10 (bo .neq (t 7) (t 9))])
(.cond (t 10)
(S (R [o 4 (ab false)])
(.ret [4]))
.skip))
(S (S (R [o 5 (an 0)])
(.block 0 (.loop [0,1,5] OO)))
(S (R [o 4 (ab true)])
(.ret [4])))))
def g53:IFn:=⟨26,[.tmp 4],[4],c53,[],false,none⟩
def Ws:IR:=D [o 17 (mv 0),o 18 (mv 5),o 19 (ia 44 17 18),o 20 (ld 106 19),o 21 (mv 1),o 22 (mv 5),o 23 (ia 44 21 22),o 24 (ld 106 23),o 25 (.binOp .neq 106 (.tmp 20) (.tmp 24) 106)] [[],[],[0,1],[2],[],[],[4,5],[6],[3,7]]
def ON:IR:=(S (S (R [o 11 (mv 5),o 12 (mv 0),o 13 (len 12 44),o 14 (bo .lss (t 11) (t 13))])
(.cond (t 14)
.skip
(.exit 0 [])))
(S (.block 1 (S Ws
(.cond (t 25)
(S (R [o 4 (ab false)])
(.ret [4]))
.skip)))
(R [o 15 (mv 5),o 16 (bo .add (t 15) (n 1)),o 5 (av 16)])))
def c54:IR:=(S (R [o 4 (ab false)])
(S (S (R [o 6 (mv 0),o 7 (len 6 44),o 8 (mv 1),o 9 (len 8 44),o 10 (bo .neq (t 7) (t 9))])
(.cond (t 10)
(S (R [o 4 (ab false)])
(.ret [4]))
.skip))
(S (S (R [o 5 (an 0)])
(.block 0 (.loop [0,1,5] ON)))
(S (R [o 4 (ab true)])
(.ret [4])))))
def g54:IFn:=⟨26,[.tmp 4],[4],c54,[],false,none⟩
def Dh:IR:=(S (S (R [o 9 (mv 4),o 10 (mv 3),o 11 (ia 23 1 10),o 12 (ld 22 11),o 13 (len 12 22),o 14 (bo .lss (t 9) (t 13))])
(.cond (t 14)
.skip
(.exit 2 [1,3])))
(S (.block 3 (S (R [o 17 (mv 4),o 18 (bo .geq (t 17) (n 4)),o 19 (mv 18),oF 20 (mv 3) 19,oF 21 (ia 23 1 20) 19,oF 22 (ld 22 21) 19,oF 23 (mv 4) 19,oF 24 (ia 22 22 23) 19,oF 25 (ld 50 24) 19,oF 26 (cl 95 #[(t 25)] #[50]) 19,oF 27 (.unOp .not 4 (.tmp 26)) 19,o 28 (.pick (.tmp 19) (.const (.bool true)) (.tmp 27))])
(.cond (t 28)
(S (R [o 2 (ab false)])
(.ret [2]))
.skip)))
(R [o 15 (mv 4),o 16 (bo .add (t 15) (n 1)),o 4 (av 16)])))
def Ni:IR:=(S (S (R [o 5 (mv 3),o 6 (bo .lss (t 5) (n 4))])
(.cond (t 6)
.skip
(.exit 0 [])))
(S (.block 1 (S (R [o 4 (an 0)])
(.block 2 (.loop [1,3,4] Dh))))
(R [o 7 (mv 3),o 8 (bo .add (t 7) (n 1)),o 3 (av 8)])))
def c55:IR:=(S (R [z 1 (bx 23 0),o 2 (ab false)])
(S (S (R [o 3 (an 0)])
(.block 0 (.loop [1,3] Ni)))
(S (R [o 2 (ab true)])
(.ret [2]))))
def g55:IFn:=⟨29,[.tmp 2],[4],c55,[],false,none⟩
def c56:IR:=(S (R [o 2 (ab false)])
(S (R [o 3 (mv 0),o 4 (cl 96 #[(t 3),(n 0),(n 65535)] #[3,3,3]),o 2 (av 4)])
(.ret [2])))
def g56:IFn:=⟨5,[.tmp 2],[4],c56,[],false,none⟩
def c57:IR:=(S (R [o 6 (ab false)])
(S (R [o 7 (mv 0),o 8 (mv 1),o 9 (bo .geq (t 7) (t 8)),o 10 (mv 9),oT 11 (mv 0) 10,oT 12 (mv 2) 10,oT 13 (bo .leq (t 11) (t 12)) 10,o 14 (.pick (.tmp 10) (.tmp 13) (.const (.bool false))),o 6 (av 14)])
(.ret [6])))
def g57:IFn:=⟨15,[.tmp 6],[4],c57,[],false,none⟩
def c58:IR:=(S (R [z 2 (bx 28 0),z 3 (bx 46 1),o 4 (ab false)])
(S (S (R [o 5 (fa 46 3 0),o 6 (ld 3 5),o 7 (fa 46 3 1),o 8 (ld 3 7),o 9 (fa 46 3 2),o 10 (ld 3 9),o 11 (fa 46 3 3),o 12 (ld 42 11),o 13 (.build 83 #[(0,(.tmp 6)),(1,(.tmp 8)),(2,(.tmp 10)),(3,(.tmp 12))]),o 14 (cl 97 #[(t 13)] #[83]),o 15 (.unOp .not 4 (.tmp 14)),o 16 (mv 15),oF 17 (fa 28 2 0) 16,oF 18 (ld 23 17) 16,oF 19 (ld 46 3) 16,oF 20 (cl 98 #[(t 18),(t 19)] #[23,46]) 16,oF 21 (.unOp .not 4 (.tmp 20)) 16,o 22 (.pick (.tmp 16) (.const (.bool true)) (.tmp 21))])
(.cond (t 22)
(S (R [o 4 (ab false)])
(.ret [4]))
.skip))
(S (S (R [o 23 (fa 46 3 4),o 24 (ld 3 23),o 25 (cl 57 #[(t 24),(n 0),(n 6)] #[3,3,3]),o 26 (.unOp .not 4 (.tmp 25)),o 27 (mv 26),oF 28 (fa 46 3 5) 27,oF 29 (ld 3 28) 27,oF 30 (fa 46 3 3) 27,oF 31 (ld 42 30) 27,oF 32 (len 31 42) 27,oF 33 (cl 57 #[(t 29),(n 0),(t 32)] #[3,3,3]) 27,oF 34 (.unOp .not 4 (.tmp 33)) 27,o 35 (.pick (.tmp 27) (.const (.bool true)) (.tmp 34)),o 36 (mv 35),oF 37 (fa 46 3 6) 36,oF 38 (ld 24 37) 36,oF 39 (cl 99 #[(t 38)] #[24]) 36,oF 40 (.unOp .not 4 (.tmp 39)) 36,o 41 (.pick (.tmp 36) (.const (.bool true)) (.tmp 40)),o 42 (mv 41),oF 43 (fa 46 3 7) 42,oF 44 (ld 43 43) 42,oF 45 (cl 100 #[(t 44)] #[43]) 42,oF 46 (.unOp .not 4 (.tmp 45)) 42,o 47 (.pick (.tmp 42) (.const (.bool true)) (.tmp 46)),o 48 (mv 47),oF 49 (fa 46 3 8) 48,oF 50 (ld 44 49) 48,oF 51 (cl 101 #[(t 50)] #[44]) 48,oF 52 (.unOp .not 4 (.tmp 51)) 48,o 53 (.pick (.tmp 48) (.const (.bool true)) (.tmp 52))])
(.cond (t 53)
(S (R [o 4 (ab false)])
(.ret [4]))
.skip))
(S (R [o 54 (fa 46 3 9),o 55 (ld 3 54),o 56 (fa 46 3 8),o 57 (ld 44 56),o 58 (len 57 44),o 59 (cl 57 #[(t 55),(n 0),(t 58)] #[3,3,3]),o 60 (mv 59),oT 61 (fa 46 3 10) 60,oT 62 (ld 3 61) 60,oT 63 (cl 56 #[(t 62)] #[3]) 60,o 64 (.pick (.tmp 60) (.tmp 63) (.const (.bool false))),o 65 (mv 64),oT 66 (fa 46 3 11) 65,oT 67 (ld 3 66) 65,oT 68 (cl 56 #[(t 67)] #[3]) 65,o 69 (.pick (.tmp 65) (.tmp 68) (.const (.bool false))),o 70 (mv 69),oT 71 (fa 46 3 12) 70,oT 72 (ld 3 71) 70,oT 73 (cl 57 #[(t 72),(n 0),(n 5)] #[3,3,3]) 70,o 74 (.pick (.tmp 70) (.tmp 73) (.const (.bool false))),o 75 (mv 74),oT 76 (fa 46 3 13) 75,oT 77 (ld 3 76) 75,oT 78 (cl 102 #[(t 77)] #[3]) 75,o 79 (.pick (.tmp 75) (.tmp 78) (.const (.bool false))),o 4 (av 79)])
(.ret [4])))))
def g58:IFn:=⟨80,[.tmp 4],[4],c58,[],false,none⟩
def c59:IR:=(S (R [o 2 (ab false)])
(S (R [o 3 (mv 0),o 4 (cl 96 #[(t 3),(n 0),(n 3)] #[3,3,3]),o 2 (av 4)])
(.ret [2])))
def g59:IFn:=⟨5,[.tmp 2],[4],c59,[],false,none⟩
def Wr:IR:=D [o 5 (fa 28 1 0),o 6 (ld 23 5),o 7 (cl 103 #[(t 6)] #[23]),o 8 (.unOp .not 4 (.tmp 7)),o 9 (mv 8),oF 10 (fa 28 1 1) 9,oF 11 (fa 28 1 2) 9,oF 12 (ld 3 11) 9,oF 13 (cl 104 #[(t 10),(t 12)] #[133,3]) 9,oF 14 (.unOp .not 4 (.tmp 13)) 9,o 15 (.pick (.tmp 9) (.const (.bool true)) (.tmp 14)),o 16 (mv 15),oF 17 (fa 28 1 1) 16,oF 18 (.slice 24 (.tmp 17) none none none) 16,oF 19 (cl 105 #[(t 18)] #[59]) 16,oF 20 (fa 28 1 2) 16,oF 21 (ld 3 20) 16,oF 22 (bo .gtr (t 19) (t 21)) 16,o 23 (.pick (.tmp 16) (.const (.bool true)) (.tmp 22)),o 24 (mv 23),oF 25 (fa 28 1 3) 24,oF 26 (ld 25 25) 24,oF 27 (len 26 25) 24,oF 28 (bo .gtr (t 27) (n 4)) 24,o 29 (.pick (.tmp 24) (.const (.bool true)) (.tmp 28)),o 30 (mv 29),oF 31 (fa 28 1 4) 30,oF 32 (ld 26 31) 30,oF 33 (len 32 26) 30,oF 34 (bo .gtr (t 33) (n 512)) 30,o 35 (.pick (.tmp 30) (.const (.bool true)) (.tmp 34))] [[],[0],[1],[2],[3,2],[4],[4],[6,4],[5,7,4,4],[8,4],[4,9],[10,8],[11],[12,11],[13,11,11],[11],[15,11],[14,16,11],[11,17],[18,14],[19],[20,19],[21,19],[22,19],[19,23],[24,19],[25],[26,25],[27,25],[28,25],[25,29]]
def Wq:IR:=D [o 42 (mv 3),o 43 (bo .gtr (t 42) (n 0)),o 44 (mv 43),oT 45 (fa 28 1 3) 44,oT 46 (ld 25 45) 44,oT 47 (mv 3) 44,oT 48 (bo .sub (t 47) (n 1)) 44,oT 49 (ia 25 46 48) 44,oT 50 (fa 46 49 0) 44,oT 51 (ld 3 50) 44,oT 52 (fa 28 1 3) 44,oT 53 (ld 25 52) 44,oT 54 (mv 3) 44,oT 55 (ia 25 53 54) 44,oT 56 (fa 46 55 0) 44,oT 57 (ld 3 56) 44,oT 58 (bo .geq (t 51) (t 57)) 44,o 59 (.pick (.tmp 44) (.tmp 58) (.const (.bool false)))] [[],[0],[1],[2],[3,2],[2],[5,2],[4,6,2],[7,2],[8,2],[2],[10,2],[2],[11,12,2],[13,2],[14,2],[9,15,2],[2,16]]
def Nh:IR:=(S (R [o 40 (bo .lss (t 39) (t 38))])
(S (.cond (t 40)
.skip
(.exit 0 [1]))
(S (.block 1 (S (R [o 41 (mv 39),o 3 (av 41)])
(S Wq
(.cond (t 59)
(S (R [o 2 (ab false)])
(.ret [2]))
.skip))))
(R [o 60 (bo .add (t 39) (n 1)),o 39 (mv 60)]))))
def c60:IR:=(S (R [z 1 (bx 28 0),o 2 (ab false)])
(S (S Wr
(.cond (t 35)
(S (R [o 2 (ab false)])
(.ret [2]))
.skip))
(S (S (R [o 36 (fa 28 1 3),o 37 (ld 25 36),o 38 (len 37 25),o 39 (.move (.const (.int .i64 0)))])
(.block 0 (.loop [1,38,39] Nh)))
(S (R [o 4 (.assign (.func 106))])
(S (R [o 61 (fa 28 1 3),o 62 (ld 25 61),o 63 (fa 28 1 0),o 64 (.build 140 #[(0,(.tmp 63))]),o 65 (.makeFunc (Go.Fn.func 109) #[(.tmp 64)] #[]),o 66 (cl 108 #[(t 62),(t 65)] #[25,137]),o 67 (mv 66),oT 68 (fa 28 1 4) 67,oT 69 (ld 26 68) 67,oT 70 (mv 4) 67,oT 71 (cl 110 #[(t 69),(t 70)] #[26,135]) 67,o 72 (.pick (.tmp 67) (.tmp 71) (.const (.bool false))),o 2 (av 72)])
(.ret [2]))))))
def g60:IFn:=⟨73,[.tmp 2],[4],c60,[],false,none⟩
def c61:IR:=(S (R [z 1 (bx 62 0),o 2 (ab false)])
(S (R [o 3 (fa 62 1 0),o 4 (ld 3 3),o 5 (cl 107 #[(t 4)] #[3]),o 6 (mv 5),oT 7 (fa 62 1 1) 6,oT 8 (ld 3 7) 6,oT 9 (bo .geq (t 8) (n 0)) 6,o 10 (.pick (.tmp 6) (.tmp 9) (.const (.bool false))),o 11 (mv 10),oT 12 (fa 62 1 1) 11,oT 13 (ld 3 12) 11,oT 14 (bo .leq (t 13) (n 255)) 11,o 15 (.pick (.tmp 11) (.tmp 14) (.const (.bool false))),o 2 (av 15)])
(.ret [2])))
def g61:IFn:=⟨16,[.tmp 2],[4],c61,[],false,none⟩
def c62:IR:=(S (R [z 1 (bx 62 0),o 2 (ab false)])
(S (R [o 3 (fa 62 1 0),o 4 (ld 3 3),o 5 (cl 59 #[(t 4)] #[3]),o 6 (mv 5),oT 7 (fa 62 1 1) 6,oT 8 (ld 3 7) 6,oT 9 (cl 57 #[(t 8),(n 0),(n 255)] #[3,3,3]) 6,o 10 (.pick (.tmp 6) (.tmp 9) (.const (.bool false))),o 2 (av 10)])
(.ret [2])))
def g62:IFn:=⟨11,[.tmp 2],[4],c62,[],false,none⟩
def Wp:IR:=D [o 5 (fa 28 1 0),o 6 (ld 23 5),o 7 (cl 111 #[(t 6)] #[23]),o 8 (fa 28 1 3),o 9 (ld 25 8),o 10 (cl 112 #[(t 9)] #[25]),o 11 (fa 28 1 4),o 12 (ld 26 11),o 13 (cl 113 #[(t 12)] #[26]),o 14 (fa 28 1 0),w (st 23 14 7),o 15 (fa 28 1 3),w (st 25 15 10),o 16 (fa 28 1 4),w (st 26 16 13)] [[],[0],[1],[],[3],[4,2],[],[6],[7,5],[0,1,2,3,4,6,7],[9,2,8,0,1,2,3,4,6,7],[0,1,2,3,4,5,6,7,9,10],[11,5,10,0,1,2,3,4,5,6,7,9,10],[0,1,2,3,4,5,6,7,8,9,10,11,12],[13,8,12,0,1,2,3,4,5,6,7,8,9,10,11,12]]
def Wo:IR:=D [o 25 (fa 28 1 3),o 26 (ld 25 25),o 27 (mv 3),o 28 (ld 46 4),o 29 (cl 114 #[(t 28)] #[46]),o 30 (ia 25 26 27),w (st 46 30 29)] [[],[0],[],[],[3],[1,2,0,1,2,3,4],[5,4,4,0,1,2,3,4]]
def SQ:IR:=(S (R [o 21 (bo .lss (t 20) (t 19))])
(S (.cond (t 21)
.skip
(.exit 0 [1,2]))
(S (.block 1 (S (R [o 22 (mv 20),o 23 (ia 25 18 20),o 24 (ld 46 23),o 4 (al 46),o 3 (av 22),w (st 46 4 24)])
Wo))
(R [o 31 (bo .add (t 20) (n 1)),o 20 (mv 31)]))))
def c63:IR:=(S (R [o 1 (bx 28 0),o 2 (al 28)])
(S Wp
(S (S (R [o 17 (fa 28 1 3),o 18 (ld 25 17),o 19 (len 18 25),o 20 (.move (.const (.int .i64 0)))])
(.block 0 (.loop [1,2,18,19,20] SQ)))
(S (R [o 32 (ld 28 1),w (st 28 2 32)])
(.ret [2])))))
def g63:IFn:=⟨33,[.cell 2 28],[28],c63,[],false,none⟩
def c64:IR:=(S (R [o 1 (bx 75 0),o 2 (.assign (.const (.pointer none)))])
(S (R [o 3 (fa 75 1 0),o 4 (fa 28 3 3),o 5 (ld 25 4),o 6 (fa 75 1 1),o 7 (ld 3 6),o 8 (ia 25 5 7),o 2 (av 8)])
(.ret [2])))
def g64:IFn:=⟨9,[.tmp 2],[98],c64,[],true,none⟩
def Wn:IR:=D [o 8 (mv 4),o 9 (nc 8),o 10 (fa 46 9 5),o 11 (ld 3 10),o 12 (mv 4),o 13 (nc 12),o 14 (fa 46 13 3),o 15 (ld 42 14),o 16 (len 15 42),o 17 (bo .eql (t 11) (t 16))] [[],[0],[1],[2],[],[4],[5],[6],[7],[3,8]]
def Wm:IR:=D [o 22 (mv 4),o 23 (nc 22),o 24 (fa 46 23 3),o 25 (ld 42 24),o 26 (mv 4),o 27 (nc 26),o 28 (fa 46 27 5),o 29 (ld 3 28),o 30 (ia 42 25 29),o 31 (ld 52 30),o 5 (al 52),w (st 52 5 31)] [[],[0],[1],[2],[],[4],[5],[6],[3,7],[8],[],[10,9,0,1,2,3,4,5,6,7,8,9,10]]
def c65:IR:=(S (R [z 1 (bx 75 0),o 2 (al 28),o 3 (an 0)])
(S (R [o 6 (ld 75 1),o 7 (cl 64 #[(t 6)] #[75]),o 4 (av 7)])
(S (S Wn
(.cond (t 17)
(S (R [o 18 (ld 75 1),o 19 (cl 115 #[(t 18)] #[75]),o 20 (xt 19 0),o 21 (xt 19 1),w (st 28 2 20),o 3 (av 21)])
(.ret [2,3]))
.skip))
(S (S Wm
(S (R [o 32 (fa 52 5 0),o 33 (ld 3 32)])
(.block 0 (S (R [o 35 (bo .eql (t 33) (n 2)),o 34 (av 35)])
(.cond (t 34)
(S (R [o 36 (ld 75 1),o 37 (cl 116 #[(t 36)] #[75]),o 38 (xt 37 0),o 39 (xt 37 1),w (st 28 2 38),o 3 (av 39)])
(.ret [2,3]))
(S (R [o 41 (bo .eql (t 33) (n 3)),o 40 (av 41)])
(.cond (t 40)
(S (R [o 42 (fa 75 1 0),o 43 (ld 28 42),o 44 (fa 75 1 1),o 45 (ld 3 44),o 46 (cl 117 #[(t 43),(t 45)] #[28,3]),o 47 (xt 46 0),o 48 (xt 46 1),w (st 28 2 47),o 3 (av 48)])
(.ret [2,3]))
(S (R [o 50 (bo .eql (t 33) (n 5)),o 49 (av 50)])
(.cond (t 49)
(S (R [o 51 (fa 75 1 0),o 52 (ld 28 51),o 53 (fa 75 1 1),o 54 (ld 3 53),o 55 (cl 70 #[(t 52),(t 54)] #[28,3]),o 56 (xt 55 0),o 57 (xt 55 1),w (st 28 2 56),o 3 (av 57)])
(.ret [2,3]))
(S (R [o 59 (bo .eql (t 33) (n 6)),o 58 (av 59)])
(.cond (t 58)
(S (R [o 60 (ld 75 1),o 61 (fa 52 5 1),o 62 (ld 3 61),o 63 (cl 118 #[(t 60),(n 2),(t 62)] #[75,3,3]),o 64 (xt 63 0),o 65 (xt 63 1),w (st 28 2 64),o 3 (av 65)])
(.ret [2,3]))
.skip)))))))))))
(S (R [o 66 (fa 75 1 0),o 67 (ld 28 66),o 68 (fa 75 1 1),o 69 (ld 3 68),o 70 (cl 119 #[(t 67),(t 69)] #[28,3]),o 71 (xt 70 0),o 72 (xt 70 1),w (st 28 2 71),o 3 (av 72)])
(.ret [2,3]))))))
def g65:IFn:=⟨73,[.cell 2 28,.tmp 3],[28,30],c65,[],false,none⟩
def Wl:IR:=D [o 11 (mv 1),o 12 (cl 120 #[(t 2),(t 11),(n 1)] #[73,3,3]),o 13 (.unOp .not 4 (.tmp 12)),o 14 (mv 13),oF 15 (fa 28 2 3) 14,oF 16 (ld 25 15) 14,oF 17 (mv 1) 14,oF 18 (ia 25 16 17) 14,oF 19 (fa 46 18 9) 14,oF 20 (ld 3 19) 14,oF 21 (fa 28 2 3) 14,oF 22 (ld 25 21) 14,oF 23 (mv 1) 14,oF 24 (ia 25 22 23) 14,oF 25 (fa 46 24 8) 14,oF 26 (ld 44 25) 14,oF 27 (len 26 44) 14,oF 28 (bo .eql (t 20) (t 27)) 14,o 29 (.pick (.tmp 14) (.const (.bool true)) (.tmp 28))] [[],[0],[1],[2,1],[3],[4,3],[3],[5,6,3],[7,3],[8,3],[3],[10,3],[3],[11,12,3],[13,3],[14,3],[15,3],[9,16,3],[3,17]]
def Wk:IR:=D [o 37 (mv 7),o 38 (nc 37),o 39 (fa 46 38 8),o 40 (ld 44 39),o 41 (mv 7),o 42 (nc 41),o 43 (fa 46 42 9),o 44 (ld 3 43),o 45 (ia 44 40 44),o 46 (ld 106 45),o 8 (al 106),w (st 106 8 46)] [[],[0],[1],[2],[],[4],[5],[6],[3,7],[8],[],[10,9,0,1,2,3,4,5,6,7,8,9,10]]
def Wj:IR:=D [o 48 (fa 106 8 0),o 49 (ld 3 48),o 50 (fa 28 6 0),o 51 (ia 23 50 49),o 52 (ld 22 51),o 53 (fa 106 8 1),o 54 (ld 3 53),o 55 (ia 22 52 54),o 56 (ld 50 55),o 57 (mv 7),o 58 (nc 57),o 59 (fa 46 58 0),o 60 (ld 3 59),o 61 (cl 121 #[(t 56),(t 60)] #[50,3]),o 47 (mv 61),o 62 (xt 47 0),o 63 (xt 47 1),o 9 (al 50),w (st 50 9 62),o 10 (av 63)] [[],[0],[],[2,1],[3],[],[5],[4,6],[7],[],[9],[10],[11],[8,12],[13],[14],[14],[],[17,15,13,0,1,2,3,4,5,6,7,8,9,10,11,12,13,14,15,17],[16,18,0,1,2,3,4,5,6,7,8,9,10,11,12,13,14,15,16,17,18]]
def Wi:IR:=D [o 71 (fa 106 8 0),o 72 (ld 3 71),o 73 (fa 28 6 0),o 74 (ia 23 73 72),o 75 (ld 22 74),o 76 (fa 106 8 1),o 77 (ld 3 76),o 78 (ld 50 9),o 79 (ia 22 75 77),w (st 50 79 78)] [[],[0],[],[2,1],[3],[],[5],[],[4,6,0,1,2,3,4,5,6,7],[8,7,0,1,2,3,4,5,6,7]]
def Wh:IR:=D [o 87 (mv 7),o 88 (nc 87),o 89 (fa 46 88 9),o 90 (ld 3 89),o 91 (mv 7),o 92 (nc 91),o 93 (fa 46 92 8),o 94 (ld 44 93),o 95 (len 94 44),o 96 (bo .eql (t 90) (t 95))] [[],[0],[1],[2],[],[4],[5],[6],[7],[3,8]]
def c66:IR:=(S (R [z 2 (bx 28 0),o 4 (al 28),o 5 (an 0)])
(S (S Wl
(.cond (t 29)
(S (R [o 30 (.build 28 #[]),w (st 28 4 30),o 5 (an 1800)])
(.ret [4,5]))
.skip))
(S (R [o 31 (ld 28 2),o 32 (cl 63 #[(t 31)] #[28]),o 6 (al 28),w (st 28 6 32)])
(S (R [o 33 (fa 28 6 3),o 34 (ld 25 33),o 35 (mv 1),z 36 (ia 25 34 35),o 7 (av 36)])
(S Wk
(S Wj
(S (S (R [o 64 (mv 10),o 65 (.binOp .neq 30 (.tmp 64) (.const (.int .i64 0)) 30)])
(.cond (t 65)
(S (R [o 66 (ld 28 2),o 67 (mv 1),o 68 (cl 122 #[(t 66),(t 67),(n 3)] #[28,3,3]),o 69 (xt 68 0),o 70 (xt 68 1),w (st 28 4 69),o 5 (av 70)])
(.ret [4,5]))
.skip))
(S Wi
(S (S (R [o 80 (mv 7),o 81 (nc 80),o 82 (fa 46 81 9),o 83 (ld 3 82),o 84 (bo .add (t 83) (n 1)),o 85 (nc 80),o 86 (fa 46 85 9),w (st 3 86 84)])
(S Wh
(.cond (t 96)
(R [o 97 (mv 7),o 98 (nc 97),o 99 (fa 46 98 4),w (.store 3 (.tmp 99) (.const (.int .i64 2)))])
.skip)))
(S (R [o 100 (ld 28 6),w (st 28 4 100),o 5 (an 0)])
(.ret [4,5])))))))))))
def g66:IFn:=⟨101,[.cell 4 28,.tmp 5],[28,30],c66,[],false,none⟩
def Wg:IR:=D [o 16 (fa 28 2 1),o 17 (ld 24 16),o 18 (fa 28 2 3),o 19 (ld 25 18),o 20 (mv 1),o 21 (ia 25 19 20),o 22 (fa 46 21 1),o 23 (ld 3 22),o 24 (fa 28 2 2),o 25 (ld 3 24),o 26 (cl 123 #[(t 17),(t 23),(t 25)] #[24,3,3]),o 15 (mv 26),o 27 (xt 15 0),o 28 (xt 15 1),o 29 (xt 15 2),o 6 (al 24),w (st 24 6 27),o 7 (av 28),o 8 (av 29)] [[],[0],[],[2],[],[3,4],[5],[6],[],[8],[1,7,9],[10],[11],[11],[11],[],[15,12,10,0,1,2,3,4,5,6,7,8,9,10,11,12,15],[13,16,0,1,2,3,4,5,6,7,8,9,10,11,12,13,15,16],[14,17,0,1,2,3,4,5,6,7,8,9,10,11,12,13,14,15,16,17]]
def c67:IR:=(S (R [z 2 (bx 28 0),o 4 (al 28),o 5 (an 0)])
(S (S (R [o 11 (mv 1),o 12 (cl 120 #[(t 2),(t 11),(n 2)] #[73,3,3]),o 13 (.unOp .not 4 (.tmp 12))])
(.cond (t 13)
(S (R [o 14 (.build 28 #[]),w (st 28 4 14),o 5 (an 1900)])
(.ret [4,5]))
.skip))
(S Wg
(S (S (R [o 30 (mv 8),o 31 (.binOp .neq 30 (.tmp 30) (.const (.int .i64 0)) 30)])
(.cond (t 31)
(S (R [o 32 (ld 28 2),o 33 (mv 1),o 34 (cl 124 #[(t 32),(t 33),(n 5),(n 0)] #[28,3,3,3]),o 35 (xt 34 0),o 36 (xt 34 1),w (st 28 4 35),o 5 (av 36)])
(.ret [4,5]))
.skip))
(S (R [o 37 (ld 28 2),o 38 (cl 63 #[(t 37)] #[28]),o 9 (al 28),w (st 28 9 38)])
(S (R [o 39 (fa 28 9 3),o 40 (ld 25 39),o 41 (mv 1),o 42 (ia 25 40 41),o 10 (av 42)])
(S (R [o 43 (mv 10),o 44 (mv 10),o 45 (ld 24 6),o 46 (mv 7),o 47 (fa 28 9 1),w (st 24 47 45),o 48 (nc 43),o 49 (fa 46 48 10),w (st 3 49 46),o 50 (nc 44),o 51 (fa 46 50 4),w (.store 3 (.tmp 51) (.const (.int .i64 3)))])
(S (R [o 52 (ld 28 9),w (st 28 4 52),o 5 (an 0)])
(.ret [4,5])))))))))
def g67:IFn:=⟨53,[.cell 4 28,.tmp 5],[28,30],c67,[],false,none⟩
def Wf:IR:=D [o 20 (fa 28 2 0),o 21 (ld 23 20),o 22 (mv 6),o 23 (nc 22),o 24 (fa 46 23 7),o 25 (ld 43 24),o 26 (mv 6),o 27 (nc 26),o 28 (fa 46 27 0),o 29 (ld 3 28),o 30 (cl 125 #[(t 21),(t 25),(t 29)] #[23,43,3]),o 19 (mv 30),o 31 (xt 19 0),o 32 (xt 19 1),o 7 (av 31),o 8 (av 32)] [[],[0],[],[2],[3],[4],[],[6],[7],[8],[1,5,9],[10],[11],[11],[12,10,0,1,2,3,4,5,6,7,8,9,10,11,12],[13,14,0,1,2,3,4,5,6,7,8,9,10,11,12,13,14]]
def c68:IR:=(S (R [z 2 (bx 28 0),o 4 (al 28),o 5 (an 0)])
(S (S (R [o 11 (mv 1),o 12 (cl 120 #[(t 2),(t 11),(n 3)] #[73,3,3]),o 13 (.unOp .not 4 (.tmp 12))])
(.cond (t 13)
(S (R [o 14 (.build 28 #[]),w (st 28 4 14),o 5 (an 2000)])
(.ret [4,5]))
.skip))
(S (R [o 15 (fa 28 2 3),o 16 (ld 25 15),o 17 (mv 1),o 18 (ia 25 16 17),o 6 (av 18)])
(S Wf
(S (.block 0 (S (R [o 34 (mv 7),o 35 (.unOp .not 4 (.tmp 34)),o 33 (av 35)])
(.cond (t 33)
(S (R [o 36 (ld 28 2),o 37 (mv 1),o 38 (cl 122 #[(t 36),(t 37),(n 3)] #[28,3,3]),o 39 (xt 38 0),o 40 (xt 38 1),w (st 28 4 39),o 5 (av 40)])
(.ret [4,5]))
(S (R [o 42 (mv 6),o 43 (nc 42),o 44 (fa 46 43 8),o 45 (ld 44 44),o 46 (len 45 44),o 47 (bo .eql (t 46) (n 0)),o 41 (av 47)])
(.cond (t 41)
(S (R [o 48 (ld 28 2),o 49 (mv 1),o 50 (cl 124 #[(t 48),(t 49),(n 1),(n 0)] #[28,3,3,3]),o 51 (xt 50 0),o 52 (xt 50 1),w (st 28 4 51),o 5 (av 52)])
(.ret [4,5]))
.skip)))))
(S (R [o 53 (ld 28 2),o 54 (cl 63 #[(t 53)] #[28]),o 9 (al 28),w (st 28 9 54)])
(S (R [o 55 (fa 28 9 3),o 56 (ld 25 55),o 57 (mv 1),o 58 (ia 25 56 57),o 10 (av 58)])
(S (R [o 59 (mv 10),o 60 (mv 10),o 61 (nc 59),o 62 (fa 46 61 9),w (.store 3 (.tmp 62) (.const (.int .i64 0))),o 63 (nc 60),o 64 (fa 46 63 4),w (.store 3 (.tmp 64) (.const (.int .i64 4)))])
(S (R [o 65 (ld 28 9),w (st 28 4 65),o 5 (an 0)])
(.ret [4,5]))))))))))
def g68:IFn:=⟨66,[.cell 4 28,.tmp 5],[28,30],c68,[],false,none⟩
def We:IR:=D [o 10 (mv 1),o 11 (cl 120 #[(t 2),(t 10),(n 4)] #[73,3,3]),o 12 (.unOp .not 4 (.tmp 11)),o 13 (mv 12),oF 14 (fa 28 2 3) 13,oF 15 (ld 25 14) 13,oF 16 (mv 1) 13,oF 17 (ia 25 15 16) 13,oF 18 (fa 46 17 9) 13,oF 19 (ld 3 18) 13,oF 20 (fa 28 2 3) 13,oF 21 (ld 25 20) 13,oF 22 (mv 1) 13,oF 23 (ia 25 21 22) 13,oF 24 (fa 46 23 8) 13,oF 25 (ld 44 24) 13,oF 26 (len 25 44) 13,oF 27 (bo .eql (t 19) (t 26)) 13,o 28 (.pick (.tmp 13) (.const (.bool true)) (.tmp 27))] [[],[0],[1],[2,1],[3],[4,3],[3],[5,6,3],[7,3],[8,3],[3],[10,3],[3],[11,12,3],[13,3],[14,3],[15,3],[9,16,3],[3,17]]
def Wd:IR:=D [o 36 (mv 7),o 37 (nc 36),o 38 (fa 46 37 8),o 39 (ld 44 38),o 40 (mv 7),o 41 (nc 40),o 42 (fa 46 41 9),o 43 (ld 3 42),o 44 (ia 44 39 43),o 45 (ld 106 44),o 8 (al 106),w (st 106 8 45)] [[],[0],[1],[2],[],[4],[5],[6],[3,7],[8],[],[10,9,0,1,2,3,4,5,6,7,8,9,10]]
def Wc:IR:=D [o 46 (fa 106 8 0),o 47 (ld 3 46),o 48 (fa 28 6 0),o 49 (ia 23 48 47),o 50 (ld 22 49),o 51 (fa 106 8 1),o 52 (ld 3 51),o 53 (ia 22 50 52),o 9 (av 53)] [[],[0],[],[2,1],[3],[],[5],[4,6],[7,0,1,2,3,4,5,6,7]]
def Wb:IR:=D [o 55 (mv 9),o 56 (mv 9),o 57 (nc 56),o 58 (ld 50 57),o 59 (fa 106 8 2),o 60 (ld 3 59),o 61 (mv 7),o 62 (nc 61),o 63 (fa 46 62 10),o 64 (ld 3 63),o 65 (cl 126 #[(t 58),(t 60),(t 64)] #[50,3,3]),o 54 (mv 65),o 66 (xt 54 0),o 67 (xt 54 1),o 68 (nc 55),w (st 50 68 66)] [[],[],[1],[2],[],[4],[],[6],[7],[8],[3,5,9],[10],[11],[11],[0,0,1,2,3,4,5,6,7,8,9,10,11,12],[14,12,10,0,1,2,3,4,5,6,7,8,9,10,11,12]]
def Wa:IR:=D [o 76 (mv 7),o 77 (nc 76),o 78 (fa 46 77 9),o 79 (ld 3 78),o 80 (mv 7),o 81 (nc 80),o 82 (fa 46 81 8),o 83 (ld 44 82),o 84 (len 83 44),o 85 (bo .lss (t 79) (t 84))] [[],[0],[1],[2],[],[4],[5],[6],[7],[3,8]]
def c69:IR:=(S (R [z 2 (bx 28 0),o 4 (al 28),o 5 (an 0)])
(S (S We
(.cond (t 28)
(S (R [o 29 (.build 28 #[]),w (st 28 4 29),o 5 (an 2100)])
(.ret [4,5]))
.skip))
(S (R [o 30 (ld 28 2),o 31 (cl 63 #[(t 30)] #[28]),o 6 (al 28),w (st 28 6 31)])
(S (R [o 32 (fa 28 6 3),o 33 (ld 25 32),o 34 (mv 1),z 35 (ia 25 33 34),o 7 (av 35)])
(S Wd
(S Wc
(S Wb
(S (S (R [o 69 (mv 7),o 70 (nc 69),o 71 (fa 46 70 9),o 72 (ld 3 71),o 73 (bo .add (t 72) (n 1)),o 74 (nc 69),o 75 (fa 46 74 9),w (st 3 75 73)])
(S Wa
(.cond (t 85)
(S (R [o 86 (ld 28 6),w (st 28 4 86),o 5 (an 0)])
(.ret [4,5]))
.skip)))
(S (R [o 87 (ld 28 6),o 88 (mv 1),o 89 (cl 124 #[(t 87),(t 88),(n 1),(n 0)] #[28,3,3,3]),o 90 (xt 89 0),o 91 (xt 89 1),w (st 28 4 90),o 5 (av 91)])
(.ret [4,5]))))))))))
def g69:IFn:=⟨92,[.cell 4 28,.tmp 5],[28,30],c69,[],false,none⟩
def VZ:IR:=D [o 41 (fa 28 2 0),o 42 (ld 23 41),o 43 (fa 28 2 3),o 44 (ld 25 43),o 45 (mv 1),o 46 (ia 25 44 45),o 47 (fa 46 46 7),o 48 (ld 43 47),o 49 (cl 129 #[(t 42),(t 48)] #[23,43]),o 40 (mv 49),o 50 (xt 40 0),o 51 (xt 40 1),o 8 (av 50),o 9 (av 51)] [[],[0],[],[2],[],[3,4],[5],[6],[1,7],[8],[9],[9],[10,8,0,1,2,3,4,5,6,7,8,9,10],[11,12,0,1,2,3,4,5,6,7,8,9,10,11,12]]
def c70:IR:=(S (R [z 2 (bx 28 0),o 4 (al 28),o 5 (an 0)])
(S (S (R [o 10 (mv 1),o 11 (.buildSlice 59 1 #[(0,(.const (.int .i64 5)))]),o 12 (cl 127 #[(t 2),(t 10),(t 11)] #[73,3,59])])
(.cond (t 12)
(S (R [o 13 (ld 28 2),o 14 (cl 63 #[(t 13)] #[28]),o 6 (al 28),w (st 28 6 14)])
(S (R [o 15 (fa 28 6 3),o 16 (ld 25 15),o 17 (mv 1),o 18 (ia 25 16 17),o 7 (av 18)])
(S (R [o 19 (mv 7),o 20 (mv 7),o 21 (mv 7),o 22 (nc 19),o 23 (fa 46 22 8),w (.store 44 (.tmp 23) (.const (.slice none 0 0))),o 24 (nc 20),o 25 (fa 46 24 9),w (.store 3 (.tmp 25) (.const (.int .i64 0))),o 26 (nc 21),o 27 (fa 46 26 4),w (.store 3 (.tmp 27) (.const (.int .i64 5)))])
(S (R [o 28 (mv 1),o 29 (mv 7),o 30 (nc 29),o 31 (fa 46 30 7),o 32 (ld 43 31),o 33 (len 32 43),o 34 (cl 128 #[(t 6),(t 28),(n 4),(t 33)] #[73,3,3,3])])
(S (R [o 35 (ld 28 6),w (st 28 4 35),o 5 (an 0)])
(.ret [4,5]))))))
.skip))
(S (S (R [o 36 (mv 1),o 37 (cl 120 #[(t 2),(t 36),(n 5)] #[73,3,3]),o 38 (.unOp .not 4 (.tmp 37))])
(.cond (t 38)
(S (R [o 39 (.build 28 #[]),w (st 28 4 39),o 5 (an 2200)])
(.ret [4,5]))
.skip))
(S (S VZ
(S (R [o 52 (mv 8)])
(.cond (t 52)
(S (R [o 53 (ld 28 2),o 54 (mv 1),o 55 (cl 122 #[(t 53),(t 54),(n 5)] #[28,3,3]),o 56 (xt 55 0),o 57 (xt 55 1),w (st 28 4 56),o 5 (av 57)])
(.ret [4,5]))
.skip)))
(S (R [o 58 (ld 28 2),o 59 (cl 63 #[(t 58)] #[28]),w (st 28 4 59),o 5 (an 0)])
(.ret [4,5]))))))
def g70:IFn:=⟨60,[.cell 4 28,.tmp 5],[28,30],c70,[],false,none⟩
def mK:IR:=(S (S (R [o 5 (mv 4),o 6 (bo .lss (t 5) (n 4))])
(.cond (t 6)
.skip
(.exit 0 [2,3])))
(S (.block 1 (R [o 9 (mv 4),o 10 (.buildSlice 22 0 #[]),o 11 (mv 4),o 12 (ia 23 1 11),o 13 (ld 22 12),o 14 (.call { callee:=(.builtin .append),args:=#[(.tmp 10),(.tmp 13)],argTypes:=#[22,22] }),o 15 (ia 23 3 9),w (st 22 15 14)]))
(R [o 7 (mv 4),o 8 (bo .add (t 7) (n 1)),o 4 (av 8)])))
def c71:IR:=(S (R [z 1 (bx 23 0),o 2 (al 23)])
(S (R [o 3 (al 23)])
(S (S (R [o 4 (an 0)])
(.block 0 (.loop [1,2,3,4] mK)))
(S (R [o 16 (ld 23 3),w (st 23 2 16)])
(.ret [2])))))
def g71:IFn:=⟨17,[.cell 2 23],[23],c71,[],false,none⟩
def c72:IR:=(S (R [o 1 (bx 46 0),o 2 (al 46)])
(S (R [o 3 (.buildSlice 42 0 #[]),o 4 (fa 46 1 3),o 5 (ld 42 4),o 6 (.call { callee:=(.builtin .append),args:=#[(.tmp 3),(.tmp 5)],argTypes:=#[42,42] }),o 7 (fa 46 1 3),w (st 42 7 6)])
(S (R [o 8 (.buildSlice 43 0 #[]),o 9 (fa 46 1 7),o 10 (ld 43 9),o 11 (.call { callee:=(.builtin .append),args:=#[(.tmp 8),(.tmp 10)],argTypes:=#[43,43] }),o 12 (fa 46 1 7),w (st 43 12 11)])
(S (R [o 13 (.buildSlice 44 0 #[]),o 14 (fa 46 1 8),o 15 (ld 44 14),o 16 (.call { callee:=(.builtin .append),args:=#[(.tmp 13),(.tmp 15)],argTypes:=#[44,44] }),o 17 (fa 46 1 8),w (st 44 17 16)])
(S (R [o 18 (ld 46 1),w (st 46 2 18)])
(.ret [2]))))))
def g72:IFn:=⟨19,[.cell 2 46],[46],c72,[],false,none⟩
def c73:IR:=(S (R [z 2 (bx 28 0),o 4 (an 0)])
(S (R [o 6 (fa 28 2 3),o 7 (ld 25 6),o 8 (mv 1),o 9 (ia 25 7 8),o 10 (ld 46 9),o 5 (al 46),w (st 46 5 10)])
(S (S (R [o 11 (fa 46 5 4),o 12 (ld 3 11),o 13 (bo .neq (t 12) (n 0)),o 14 (mv 13),oF 15 (fa 46 5 5) 14,oF 16 (ld 3 15) 14,oF 17 (fa 46 5 3) 14,oF 18 (ld 42 17) 14,oF 19 (len 18 42) 14,oF 20 (bo .geq (t 16) (t 19)) 14,o 21 (.pick (.tmp 14) (.const (.bool true)) (.tmp 20))])
(.cond (t 21)
(S (R [o 4 (an (-1))])
(.ret [4]))
.skip))
(S (R [o 22 (fa 46 5 3),o 23 (ld 42 22),o 24 (fa 46 5 5),o 25 (ld 3 24),o 26 (ia 42 23 25),o 27 (fa 52 26 0),o 28 (ld 3 27),o 4 (av 28)])
(.ret [4])))))
def g73:IFn:=⟨29,[.tmp 4],[3],c73,[],false,none⟩
def VY:IR:=D [o 22 (fa 46 6 3),o 23 (ld 42 22),o 24 (fa 46 6 5),o 25 (ld 3 24),o 26 (ia 42 23 25),o 27 (fa 52 26 2),o 28 (ld 3 27),o 29 (fa 46 6 1),o 30 (ld 3 29),o 31 (cl 130 #[(t 28),(t 30)] #[3,3]),o 32 (.unOp .not 4 (.tmp 31)),o 4 (av 32),o 5 (an 0)] [[],[0],[],[2],[1,3],[4],[5],[],[7],[6,8],[9],[10,9,0,1,2,3,4,5,6,7,8,9,10],[11,0,1,2,3,4,5,6,7,8,9,10,11]]
def c74:IR:=(S (R [z 2 (bx 28 0),o 4 (ab false),o 5 (an 0)])
(S (S (R [o 7 (ld 28 2),o 8 (mv 1),o 9 (cl 39 #[(t 7),(t 8)] #[28,3]),o 10 (.unOp .not 4 (.tmp 9)),o 11 (mv 10),oF 12 (ld 28 2) 11,oF 13 (mv 1) 11,oF 14 (cl 73 #[(t 12),(t 13)] #[28,3]) 11,oF 15 (bo .neq (t 14) (n 2)) 11,o 16 (.pick (.tmp 11) (.const (.bool true)) (.tmp 15))])
(.cond (t 16)
(S (R [o 4 (ab false),o 5 (an 1400)])
(.ret [4,5]))
.skip))
(S (R [o 17 (fa 28 2 3),o 18 (ld 25 17),o 19 (mv 1),o 20 (ia 25 18 19),o 21 (ld 46 20),o 6 (al 46),w (st 46 6 21)])
(S VY
(.ret [4,5])))))
def g74:IFn:=⟨33,[.tmp 4,.tmp 5],[4,3],c74,[],false,none⟩
def VX:IR:=D [o 29 (fa 46 8 1),o 30 (ld 3 29),o 31 (fa 46 8 3),o 32 (ld 42 31),o 33 (fa 46 8 5),o 34 (ld 3 33),o 35 (ia 42 32 34),o 36 (fa 52 35 2),o 37 (ld 3 36),o 38 (bo .or (t 30) (t 37)),o 9 (av 38)] [[],[0],[],[2],[],[4],[3,5],[6],[7],[1,8],[9,0,1,2,3,4,5,6,7,8,9]]
def c75:IR:=(S (R [z 2 (bx 28 0),o 4 (al 28),o 5 (an 0)])
(S (R [o 12 (ld 28 2),o 13 (mv 1),o 14 (cl 74 #[(t 12),(t 13)] #[28,3]),o 11 (mv 14),o 15 (xt 11 0),o 16 (xt 11 1),o 6 (av 15),o 7 (av 16)])
(S (S (R [o 17 (mv 7),o 18 (bo .neq (t 17) (n 0)),o 19 (mv 18),oF 20 (mv 6) 19,oF 21 (.unOp .not 4 (.tmp 20)) 19,o 22 (.pick (.tmp 19) (.const (.bool true)) (.tmp 21))])
(.cond (t 22)
(S (R [o 23 (.build 28 #[]),w (st 28 4 23),o 5 (an 1400)])
(.ret [4,5]))
.skip))
(S (R [o 24 (fa 28 2 3),o 25 (ld 25 24),o 26 (mv 1),o 27 (ia 25 25 26),o 28 (ld 46 27),o 8 (al 46),w (st 46 8 28)])
(S VX
(S (S (R [o 39 (mv 9),o 40 (fa 46 8 2),o 41 (ld 3 40),o 42 (cl 130 #[(t 39),(t 41)] #[3,3]),o 43 (.unOp .not 4 (.tmp 42))])
(.cond (t 43)
(S (R [o 44 (ld 28 2),o 45 (mv 1),o 46 (cl 79 #[(t 44),(t 45),(n 4),(n 0)] #[28,3,3,3]),o 47 (xt 46 0),o 48 (xt 46 1),w (st 28 4 47),o 5 (av 48)])
(.ret [4,5]))
.skip))
(S (R [o 49 (ld 28 2),o 50 (cl 40 #[(t 49)] #[28]),o 51 (mv 1),o 52 (mv 9),o 53 (cl 87 #[(t 50),(t 51),(n 2),(t 52)] #[28,3,3,3]),o 10 (al 28),w (st 28 10 53)])
(S (R [o 54 (fa 28 10 3),o 55 (ld 25 54),o 56 (mv 1),o 57 (mv 9),o 58 (ia 25 55 56),o 59 (fa 46 58 1),w (st 3 59 57)])
(S (R [o 60 (ld 28 10),w (st 28 4 60),o 5 (an 0)])
(.ret [4,5]))))))))))
def g75:IFn:=⟨61,[.cell 4 28,.tmp 5],[28,3],c75,[],false,none⟩
def VW:IR:=D [o 55 (fa 52 9 2),o 56 (ld 3 55),o 57 (fa 28 2 0),o 58 (ia 23 57 56),o 59 (ld 22 58),o 60 (fa 52 9 3),o 61 (ld 3 60),o 62 (ia 22 59 61),o 63 (ld 50 62),o 13 (al 50),w (st 50 13 63)] [[],[0],[],[2,1],[3],[],[5],[4,6],[7],[],[9,8,0,1,2,3,4,5,6,7,8,9]]
def VV:IR:=D [o 110 (fa 28 12 3),o 111 (ld 25 110),o 112 (mv 1),o 113 (fa 52 9 1),o 114 (ld 3 113),o 115 (mv 10),o 116 (ia 25 111 112),o 117 (fa 46 116 6),o 118 (ia 24 117 114),w (st 3 118 115)] [[],[0],[],[],[3],[],[1,2],[6],[7,4,0,1,2,3,4,5],[8,5,0,1,2,3,4,5]]
def c76:IR:=(S (R [z 2 (bx 28 0),o 4 (al 28),o 5 (an 0)])
(S (R [o 19 (ld 28 2),o 20 (mv 1),o 21 (cl 74 #[(t 19),(t 20)] #[28,3]),o 18 (mv 21),o 22 (xt 18 0),o 23 (xt 18 1),o 6 (av 22),o 7 (av 23)])
(S (S (R [o 24 (mv 7),o 25 (bo .neq (t 24) (n 0)),o 26 (mv 25),oF 27 (mv 6) 26,o 28 (.pick (.tmp 26) (.const (.bool true)) (.tmp 27))])
(.cond (t 28)
(S (R [o 29 (.build 28 #[]),w (st 28 4 29),o 5 (an 1500)])
(.ret [4,5]))
.skip))
(S (R [o 30 (fa 28 2 3),o 31 (ld 25 30),o 32 (mv 1),o 33 (ia 25 31 32),o 34 (ld 46 33),o 8 (al 46),w (st 46 8 34)])
(S (R [o 35 (fa 46 8 3),o 36 (ld 42 35),o 37 (fa 46 8 5),o 38 (ld 3 37),o 39 (ia 42 36 38),o 40 (ld 52 39),o 9 (al 52),w (st 52 9 40)])
(S (R [o 42 (fa 46 8 8),o 43 (ld 44 42),o 44 (fa 52 9 2),o 45 (ld 3 44),o 46 (fa 52 9 3),o 47 (ld 3 46),o 48 (cl 131 #[(t 43),(t 45),(t 47)] #[44,3,3]),o 41 (mv 48),o 49 (xt 41 0),o 50 (xt 41 1),o 10 (av 49),o 11 (av 50)])
(S (R [o 51 (ld 28 2),o 52 (cl 40 #[(t 51)] #[28]),o 12 (al 28),w (st 28 12 52)])
(S (S (R [o 53 (mv 11),o 54 (.unOp .not 4 (.tmp 53))])
(.cond (t 54)
(S VW
(S (R [o 65 (fa 28 2 0),o 66 (ld 23 65),o 67 (fa 46 8 7),o 68 (ld 43 67),o 69 (fa 46 8 0),o 70 (ld 3 69),o 71 (cl 85 #[(t 66),(t 68),(t 70)] #[23,43,3]),o 64 (mv 71),o 72 (xt 64 0),o 73 (xt 64 1),o 14 (av 72),o 15 (av 73)])
(S (S (R [o 74 (fa 50 13 2),o 75 (ld 3 74),o 76 (bo .neq (t 75) (n 0)),o 77 (mv 76),oF 78 (mv 14) 77,oF 79 (.unOp .not 4 (.tmp 78)) 77,o 80 (.pick (.tmp 77) (.const (.bool true)) (.tmp 79))])
(.cond (t 80)
(S (R [o 81 (ld 28 2),o 82 (mv 1),o 83 (cl 83 #[(t 81),(t 82),(n 3)] #[28,3,3]),o 84 (xt 83 0),o 85 (xt 83 1),w (st 28 4 84),o 5 (av 85)])
(.ret [4,5]))
.skip))
(S (R [o 87 (fa 46 8 7),o 88 (ld 43 87),o 89 (fa 52 9 2),o 90 (ld 3 89),o 91 (fa 52 9 3),o 92 (ld 3 91),o 93 (fa 50 13 1),o 94 (ld 3 93),o 95 (.build 125 #[(0,(.tmp 90)),(1,(.tmp 92)),(2,(.tmp 94))]),o 96 (cl 132 #[(t 88),(t 95)] #[43,125]),o 86 (mv 96),o 97 (xt 86 0),o 98 (xt 86 1),o 16 (av 97),o 17 (av 98)])
(S (S (R [o 99 (mv 17),o 100 (bo .neq (t 99) (n 0))])
(.cond (t 100)
(S (R [o 101 (.build 28 #[]),w (st 28 4 101),o 5 (an 1500)])
(.ret [4,5]))
.skip))
(S (R [o 102 (fa 28 12 3),o 103 (ld 25 102),o 104 (mv 1),o 105 (mv 16),o 106 (ia 25 103 104),o 107 (fa 46 106 7),w (st 43 107 105)])
(R [o 108 (fa 50 13 0),o 109 (ld 3 108),o 10 (av 109)])))))))
.skip))
(S VV
(S (R [o 119 (fa 28 12 3),o 120 (ld 25 119),o 121 (mv 1),o 122 (ia 25 120 121),o 123 (fa 46 122 5),o 124 (ld 3 123),o 125 (bo .add (t 124) (n 1)),o 126 (ia 25 120 121),o 127 (fa 46 126 5),w (st 3 127 125)])
(S (R [o 128 (ld 28 12),o 129 (mv 1),o 130 (mv 10),o 131 (cl 87 #[(t 128),(t 129),(n 0),(t 130)] #[28,3,3,3]),w (st 28 4 131),o 5 (an 0)])
(.ret [4,5]))))))))))))
def g76:IFn:=⟨132,[.cell 4 28,.tmp 5],[28,3],c76,[],false,none⟩
def VU:IR:=D [o 34 (fa 46 6 8),o 35 (ld 44 34),o 36 (fa 52 7 2),o 37 (ld 3 36),o 38 (fa 52 7 3),o 39 (ld 3 38),o 40 (fa 52 7 1),o 41 (ld 3 40),o 42 (fa 46 6 6),o 43 (ia 24 42 41),o 44 (ld 3 43),o 45 (.build 106 #[(0,(.tmp 37)),(1,(.tmp 39)),(2,(.tmp 44))]),o 46 (cl 133 #[(t 35),(t 45)] #[44,106]),o 33 (mv 46),o 47 (xt 33 0),o 48 (xt 33 1),o 8 (av 47),o 9 (av 48)] [[],[0],[],[2],[],[4],[],[6],[],[8,7],[9],[3,5,10],[1,11],[12],[13],[13],[14,12,0,1,2,3,4,5,6,7,8,9,10,11,12,13,14],[15,16,0,1,2,3,4,5,6,7,8,9,10,11,12,13,14,15,16]]
def VT:IR:=D [o 69 (ld 28 10),o 70 (mv 1),o 71 (fa 52 7 1),o 72 (ld 3 71),o 73 (fa 46 6 6),o 74 (ia 24 73 72),o 75 (ld 3 74),o 76 (cl 87 #[(t 69),(t 70),(n 1),(t 75)] #[28,3,3,3]),w (st 28 4 76),o 5 (an 0)] [[],[],[],[2],[],[4,3],[5],[0,1,6],[7,7,0,1,2,3,4,5,6,7],[8,0,1,2,3,4,5,6,7,8]]
def c77:IR:=(S (R [z 2 (bx 28 0),o 4 (al 28),o 5 (an 0)])
(S (S (R [o 11 (ld 28 2),o 12 (mv 1),o 13 (cl 39 #[(t 11),(t 12)] #[28,3]),o 14 (.unOp .not 4 (.tmp 13)),o 15 (mv 14),oF 16 (ld 28 2) 15,oF 17 (mv 1) 15,oF 18 (cl 73 #[(t 16),(t 17)] #[28,3]) 15,oF 19 (bo .neq (t 18) (n 3)) 15,o 20 (.pick (.tmp 15) (.const (.bool true)) (.tmp 19))])
(.cond (t 20)
(S (R [o 21 (.build 28 #[]),w (st 28 4 21),o 5 (an 1600)])
(.ret [4,5]))
.skip))
(S (R [o 22 (fa 28 2 3),o 23 (ld 25 22),o 24 (mv 1),o 25 (ia 25 23 24),o 26 (ld 46 25),o 6 (al 46),w (st 46 6 26)])
(S (R [o 27 (fa 46 6 3),o 28 (ld 42 27),o 29 (fa 46 6 5),o 30 (ld 3 29),o 31 (ia 42 28 30),o 32 (ld 52 31),o 7 (al 52),w (st 52 7 32)])
(S VU
(S (S (R [o 49 (mv 9),o 50 (bo .neq (t 49) (n 0))])
(.cond (t 50)
(S (R [o 51 (.build 28 #[]),w (st 28 4 51),o 5 (an 1600)])
(.ret [4,5]))
.skip))
(S (R [o 52 (ld 28 2),o 53 (cl 40 #[(t 52)] #[28]),o 10 (al 28),w (st 28 10 53)])
(S (R [o 54 (fa 28 10 3),o 55 (ld 25 54),o 56 (mv 1),o 57 (mv 8),o 58 (ia 25 55 56),o 59 (fa 46 58 8),w (st 44 59 57)])
(S (R [o 60 (fa 28 10 3),o 61 (ld 25 60),o 62 (mv 1),o 63 (ia 25 61 62),o 64 (fa 46 63 5),o 65 (ld 3 64),o 66 (bo .add (t 65) (n 1)),o 67 (ia 25 61 62),o 68 (fa 46 67 5),w (st 3 68 66)])
(S VT
(.ret [4,5])))))))))))
def g77:IFn:=⟨77,[.cell 4 28,.tmp 5],[28,3],c77,[],false,none⟩
def VS:IR:=D [o 22 (fa 46 7 6),o 23 (ld 24 22),o 24 (fa 46 7 5),o 25 (ld 3 24),o 26 (bo .add (t 25) (n 1)),o 8 (al 24),w (st 24 8 23),o 9 (av 26)] [[],[0],[],[2],[3],[],[5,1,0,1,5],[4,6,0,1,2,3,4,5,6]]
def VR:IR:=D [o 34 (fa 46 7 6),o 35 (ld 24 34),o 36 (fa 46 7 3),o 37 (ld 42 36),o 38 (fa 46 7 5),o 39 (ld 3 38),o 40 (ia 42 37 39),o 41 (fa 52 40 1),o 42 (ld 3 41),o 43 (fa 46 7 3),o 44 (ld 42 43),o 45 (fa 46 7 5),o 46 (ld 3 45),o 47 (ia 42 44 46),o 48 (fa 52 47 2),o 49 (ld 3 48),o 50 (cl 134 #[(t 35),(t 42),(t 49)] #[24,3,3]),o 33 (mv 50),o 51 (xt 33 0),o 52 (xt 33 1),w (st 24 8 51)] [[],[0],[],[2],[],[4],[3,5],[6],[7],[],[9],[],[11],[10,12],[13],[14],[1,8,15],[16],[17],[17],[18,16,0,1,2,3,4,5,6,7,8,9,10,11,12,13,14,15,16,17,18]]
def VQ:IR:=D [o 56 (fa 46 7 6),o 57 (ld 24 56),o 58 (fa 46 7 3),o 59 (ld 42 58),o 60 (fa 46 7 5),o 61 (ld 3 60),o 62 (ia 42 59 61),o 63 (fa 52 62 1),o 64 (ld 3 63),o 65 (fa 46 7 3),o 66 (ld 42 65),o 67 (fa 46 7 5),o 68 (ld 3 67),o 69 (ia 42 66 68),o 70 (fa 52 69 2),o 71 (ld 3 70),o 72 (cl 135 #[(t 57),(t 64),(t 71)] #[24,3,3]),o 55 (mv 72),o 73 (xt 55 0),o 74 (xt 55 1),w (st 24 8 73)] [[],[0],[],[2],[],[4],[3,5],[6],[7],[],[9],[],[11],[10,12],[13],[14],[1,8,15],[16],[17],[17],[18,16,0,1,2,3,4,5,6,7,8,9,10,11,12,13,14,15,16,17,18]]
def c78:IR:=(S (R [z 2 (bx 28 0),o 4 (al 28),o 5 (an 0)])
(S (S (R [o 10 (ld 28 2),o 11 (mv 1),o 12 (cl 39 #[(t 10),(t 11)] #[28,3]),o 13 (.unOp .not 4 (.tmp 12))])
(.cond (t 13)
(S (R [o 14 (.build 28 #[]),w (st 28 4 14),o 5 (an 1700)])
(.ret [4,5]))
.skip))
(S (R [o 15 (ld 28 2),o 16 (cl 40 #[(t 15)] #[28]),o 6 (al 28),w (st 28 6 16)])
(S (R [o 17 (fa 28 2 3),o 18 (ld 25 17),o 19 (mv 1),o 20 (ia 25 18 19),o 21 (ld 46 20),o 7 (al 46),w (st 46 7 21)])
(S VS
(S (S (R [o 27 (ld 28 2),o 28 (mv 1),o 29 (cl 73 #[(t 27),(t 28)] #[28,3])])
(.block 0 (S (R [o 32 (bo .eql (t 29) (n 0)),o 31 (av 32)])
(.cond (t 31)
VR
(S (R [o 54 (bo .eql (t 29) (n 1)),o 53 (av 54)])
(.cond (t 53)
VQ
(S (R [o 76 (bo .eql (t 29) (n 4)),o 75 (av 76)])
(.cond (t 75)
(S (R [o 77 (fa 46 7 3),o 78 (ld 42 77),o 79 (fa 46 7 5),o 80 (ld 3 79),o 81 (ia 42 78 80),o 82 (fa 52 81 1),o 83 (ld 3 82),o 84 (fa 46 7 6),o 85 (ia 24 84 83),o 86 (ld 3 85),o 87 (bo .eql (t 86) (n 0))])
(.cond (t 87)
(R [o 88 (fa 46 7 3),o 89 (ld 42 88),o 90 (fa 46 7 5),o 91 (ld 3 90),o 92 (ia 42 89 91),o 93 (fa 52 92 2),o 94 (ld 3 93),o 9 (av 94)])
.skip))
(S (R [o 30 (.build 28 #[]),w (st 28 4 30),o 5 (an 1700)])
(.ret [4,5]))))))))))
(S (R [o 95 (fa 28 6 3),o 96 (ld 25 95),o 97 (mv 1),o 98 (ld 24 8),o 99 (ia 25 96 97),o 100 (fa 46 99 6),w (st 24 100 98)])
(S (R [o 101 (fa 28 6 3),o 102 (ld 25 101),o 103 (mv 1),o 104 (mv 9),o 105 (ia 25 102 103),o 106 (fa 46 105 5),w (st 3 106 104)])
(S (R [o 107 (ld 28 6),w (st 28 4 107),o 5 (an 0)])
(.ret [4,5]))))))))))
def g78:IFn:=⟨108,[.cell 4 28,.tmp 5],[28,3],c78,[],false,none⟩
def c79:IR:=(S (R [z 4 (bx 28 0),o 8 (al 28),o 9 (an 0)])
(S (S (R [o 11 (ld 28 4),o 12 (mv 1),o 13 (cl 39 #[(t 11),(t 12)] #[28,3]),o 14 (.unOp .not 4 (.tmp 13)),o 15 (mv 14),oF 16 (mv 2) 15,oF 17 (cl 57 #[(t 16),(n 0),(n 5)] #[3,3,3]) 15,oF 18 (.unOp .not 4 (.tmp 17)) 15,o 19 (.pick (.tmp 15) (.const (.bool true)) (.tmp 18)),o 20 (mv 19),oF 21 (mv 3) 20,oF 22 (cl 102 #[(t 21)] #[3]) 20,oF 23 (.unOp .not 4 (.tmp 22)) 20,o 24 (.pick (.tmp 20) (.const (.bool true)) (.tmp 23))])
(.cond (t 24)
(S (R [o 25 (.build 28 #[]),w (st 28 8 25),o 9 (an 1300)])
(.ret [8,9]))
.skip))
(S (R [o 26 (ld 28 4),o 27 (mv 1),o 28 (cl 136 #[(t 26),(t 27)] #[28,3]),o 10 (al 28),w (st 28 10 28)])
(S (R [o 29 (fa 28 10 3),o 30 (ld 25 29),o 31 (mv 1),o 32 (ia 25 30 31),o 33 (fa 46 32 4),w (.store 3 (.tmp 33) (.const (.int .i64 6)))])
(S (R [o 34 (fa 28 10 3),o 35 (ld 25 34),o 36 (mv 1),o 37 (mv 2),o 38 (ia 25 35 36),o 39 (fa 46 38 12),w (st 3 39 37)])
(S (R [o 40 (fa 28 10 3),o 41 (ld 25 40),o 42 (mv 1),o 43 (mv 3),o 44 (ia 25 41 42),o 45 (fa 46 44 13),w (st 3 45 43)])
(S (R [o 46 (ld 28 10),o 47 (mv 1),o 48 (mv 2),o 49 (cl 87 #[(t 46),(t 47),(n 6),(t 48)] #[28,3,3,3]),w (st 28 8 49),o 9 (an 0)])
(.ret [8,9]))))))))
def g79:IFn:=⟨50,[.cell 8 28,.tmp 9],[28,3],c79,[],false,none⟩
def WS:IR:=(S (S (R [o 6 (mv 5),o 7 (mv 0),o 8 (len 7 44),o 9 (bo .lss (t 6) (t 8))])
(.cond (t 9)
.skip
(.exit 0 [0])))
(S (.block 1 (S (R [o 12 (mv 0),o 13 (mv 5),o 14 (ia 44 12 13),o 15 (fa 106 14 0),o 16 (ld 3 15),o 17 (mv 1),o 18 (bo .neq (t 16) (t 17))])
(.cond (t 18)
(S (R [o 4 (ab false)])
(.ret [4]))
.skip)))
(R [o 10 (mv 5),o 11 (bo .add (t 10) (n 1)),o 5 (av 11)])))
def c80:IR:=(S (R [o 4 (ab false)])
(S (S (R [o 5 (an 0)])
(.block 0 (.loop [0,1,5] WS)))
(S (R [o 19 (mv 0),o 20 (cl 101 #[(t 19)] #[44]),o 4 (av 20)])
(.ret [4]))))
def g80:IFn:=⟨21,[.tmp 4],[4],c80,[],false,none⟩
def VP:IR:=D [o 7 (ld 28 3),o 8 (mv 1),o 9 (cl 39 #[(t 7),(t 8)] #[28,3]),o 10 (mv 9),oT 11 (fa 28 3 3) 10,oT 12 (ld 25 11) 10,oT 13 (mv 1) 10,oT 14 (ia 25 12 13) 10,oT 15 (fa 46 14 4) 10,oT 16 (ld 3 15) 10,oT 17 (mv 2) 10,oT 18 (bo .eql (t 16) (t 17)) 10,o 19 (.pick (.tmp 10) (.tmp 18) (.const (.bool false))),o 20 (mv 19),oT 21 (fa 28 3 3) 20,oT 22 (ld 25 21) 20,oT 23 (mv 1) 20,oT 24 (ia 25 22 23) 20,oT 25 (fa 46 24 9) 20,oT 26 (ld 3 25) 20,oT 27 (fa 28 3 3) 20,oT 28 (ld 25 27) 20,oT 29 (mv 1) 20,oT 30 (ia 25 28 29) 20,oT 31 (fa 46 30 8) 20,oT 32 (ld 44 31) 20,oT 33 (len 32 44) 20,oT 34 (bo .lss (t 26) (t 33)) 20,o 35 (.pick (.tmp 20) (.tmp 34) (.const (.bool false))),o 6 (av 35)] [[],[],[0,1],[2,2],[3],[4,3],[3],[5,6,3],[7,3],[8,3],[3],[9,10,3],[3,11],[12,3],[13],[14,13],[13],[15,16,13],[17,13],[18,13],[13],[20,13],[13],[21,22,13],[23,13],[24,13],[25,13],[19,26,13],[13,27],[28,13,0,1,2,3,4,5,6,7,8,9,10,11,12,13,14,15,16,17,18,19,20,21,22,23,24,25,26,27,28]]
def c81:IR:=(S (R [z 3 (bx 28 0),o 6 (ab false)])
(S VP
(.ret [6])))
def g81:IFn:=⟨36,[.tmp 6],[4],c81,[],false,none⟩
def c82:IR:=(S (R [o 2 (bx 50 0),o 4 (al 50),o 5 (an 0)])
(S (S (R [o 6 (ld 50 2),o 7 (cl 95 #[(t 6)] #[50]),o 8 (.unOp .not 4 (.tmp 7)),o 9 (mv 8),oF 10 (mv 1) 9,oF 11 (cl 137 #[(t 10)] #[3]) 9,oF 12 (.unOp .not 4 (.tmp 11)) 9,o 13 (.pick (.tmp 9) (.const (.bool true)) (.tmp 12))])
(.cond (t 13)
(S (R [o 14 (.build 50 #[]),w (st 50 4 14),o 5 (an 300)])
(.ret [4,5]))
.skip))
(S (S (R [o 15 (fa 50 2 2),o 16 (ld 3 15),o 17 (bo .neq (t 16) (n 0))])
(.cond (t 17)
(S (R [o 18 (.build 50 #[]),w (st 50 4 18),o 5 (an 301)])
(.ret [4,5]))
.skip))
(S (R [o 19 (mv 1),o 20 (bo .add (t 19) (n 1)),o 21 (fa 50 2 2),w (st 3 21 20)])
(S (R [o 22 (ld 50 2),w (st 50 4 22),o 5 (an 0)])
(.ret [4,5]))))))
def g82:IFn:=⟨23,[.cell 4 50,.tmp 5],[50,3],c82,[],false,none⟩
def VO:IR:=D [o 41 (fa 28 8 3),o 42 (ld 25 41),o 43 (mv 1),o 44 (fa 28 3 3),o 45 (ld 25 44),o 46 (mv 1),o 47 (ia 25 45 46),o 48 (fa 46 47 11),o 49 (ld 3 48),o 50 (bo .add (t 49) (n 1)),o 51 (.call { callee:=(.builtin .min),args:=#[(.tmp 50),(.const (.int .i64 65535))],argTypes:=#[3,3] }),o 52 (ia 25 42 43),o 53 (fa 46 52 11),w (st 3 53 51)] [[],[0],[],[],[3],[],[4,5],[6],[7],[8],[9],[1,2,0,1,2,3,4,5,6,7,8,9,10],[11,0,1,2,3,4,5,6,7,8,9,10],[12,10,0,1,2,3,4,5,6,7,8,9,10]]
def VN:IR:=D [o 54 (ld 28 8),o 55 (mv 1),o 56 (mv 2),o 57 (fa 28 8 3),o 58 (ld 25 57),o 59 (mv 1),o 60 (ia 25 58 59),o 61 (fa 46 60 11),o 62 (ld 3 61),o 63 (cl 87 #[(t 54),(t 55),(t 56),(t 62)] #[28,3,3,3]),w (st 28 6 63),o 7 (an 0)] [[],[],[],[],[3],[],[4,5],[6],[7],[0,1,2,8],[9,9,0,1,2,3,4,5,6,7,8,9],[10,0,1,2,3,4,5,6,7,8,9,10]]
def c83:IR:=(S (R [z 3 (bx 28 0),o 6 (al 28),o 7 (an 0)])
(S (S (R [o 9 (ld 28 3),o 10 (mv 1),o 11 (cl 39 #[(t 9),(t 10)] #[28,3]),o 12 (.unOp .not 4 (.tmp 11)),o 13 (mv 12),oF 14 (mv 2) 13,oF 15 (bo .neq (t 14) (n 3)) 13,oF 16 (mv 15) 13,oT 17 (mv 2) 16,oT 18 (bo .neq (t 17) (n 5)) 16,oF 19 (.pick (.tmp 16) (.tmp 18) (.const (.bool false))) 13,o 20 (.pick (.tmp 13) (.const (.bool true)) (.tmp 19))])
(.cond (t 20)
(S (R [o 21 (.build 28 #[]),w (st 28 6 21),o 7 (an 1300)])
(.ret [6,7]))
.skip))
(S (R [o 22 (ld 28 3),o 23 (mv 1),o 24 (cl 136 #[(t 22),(t 23)] #[28,3]),o 8 (al 28),w (st 28 8 24)])
(S (R [o 25 (fa 28 8 3),o 26 (ld 25 25),o 27 (mv 1),o 28 (ia 25 26 27),o 29 (fa 46 28 5),w (.store 3 (.tmp 29) (.const (.int .i64 0)))])
(S (R [o 30 (fa 28 8 3),o 31 (ld 25 30),o 32 (mv 1),o 33 (.build 24 #[]),o 34 (ia 25 31 32),o 35 (fa 46 34 6),w (st 24 35 33)])
(S (R [o 36 (fa 28 8 3),o 37 (ld 25 36),o 38 (mv 1),o 39 (ia 25 37 38),o 40 (fa 46 39 4),w (.store 3 (.tmp 40) (.const (.int .i64 0)))])
(S VO
(S VN
(.ret [6,7])))))))))
def g83:IFn:=⟨64,[.cell 6 28,.tmp 7],[28,3],c83,[],false,none⟩
def Jt:IR:=(S (S (R [o 17 (mv 10),o 18 (bo .lss (t 17) (n 4))])
(.cond (t 18)
.skip
(.exit 0 [1,2,3,6,9])))
(S (.block 1 (R [o 21 (mv 9),o 22 (mv 21),oT 23 (mv 10) 22,oT 24 (ia 24 3 23) 22,oT 25 (ld 3 24) 22,oT 26 (cl 56 #[(t 25)] #[3]) 22,o 27 (.pick (.tmp 22) (.tmp 26) (.const (.bool false))),o 9 (av 27)]))
(R [o 19 (mv 10),o 20 (bo .add (t 19) (n 1)),o 10 (av 20)])))
def VM:IR:=D [o 42 (ld 24 3),o 43 (mv 1),o 44 (ia 24 3 43),o 45 (ld 3 44),w (st 24 6 42),o 7 (av 45),o 8 (an 0)] [[],[],[1],[2],[0,0],[3,4,0,1,2,3,4],[5,0,1,2,3,4,5]]
def c84:IR:=(S (R [o 3 (bx 24 0),o 6 (al 24),o 7 (an 0),o 8 (an 0)])
(S (R [o 11 (mv 1),o 12 (cl 59 #[(t 11)] #[3]),o 13 (mv 12),oT 14 (mv 2) 13,oT 15 (cl 56 #[(t 14)] #[3]) 13,o 16 (.pick (.tmp 13) (.tmp 15) (.const (.bool false))),o 9 (av 16)])
(S (S (R [o 10 (an 0)])
(.block 0 (.loop [1,2,3,6,9,10] Jt)))
(S (S (R [o 28 (mv 9),o 29 (.unOp .not 4 (.tmp 28))])
(.cond (t 29)
(S (R [o 30 (.build 24 #[]),w (st 24 6 30),o 7 (an 0),o 8 (an 500)])
(.ret [6,7,8]))
.skip))
(S (S (R [o 31 (mv 1),o 32 (ia 24 3 31),o 33 (ld 3 32),o 34 (mv 2),o 35 (bo .geq (t 33) (t 34))])
(.cond (t 35)
(S (R [o 36 (.build 24 #[]),w (st 24 6 36),o 7 (an 0),o 8 (an 501)])
(.ret [6,7,8]))
.skip))
(S (R [o 37 (mv 1),o 38 (ia 24 3 37),o 39 (ld 3 38),o 40 (bo .add (t 39) (n 1)),o 41 (ia 24 3 37),w (st 3 41 40)])
(S VM
(.ret [6,7,8]))))))))
def g84:IFn:=⟨46,[.cell 6 24,.tmp 7,.tmp 8],[24,3,3],c84,[],false,none⟩
def VL:IR:=D [o 35 (mv 1),o 36 (mv 8),o 37 (ia 43 35 36),o 38 (fa 125 37 0),o 39 (ld 3 38),o 40 (ia 23 3 39),o 41 (ld 22 40),o 42 (mv 1),o 43 (mv 8),o 44 (ia 43 42 43),o 45 (fa 125 44 1),o 46 (ld 3 45),o 47 (ia 22 41 46),o 48 (ld 50 47),o 9 (al 50),w (st 50 9 48)] [[],[],[0,1],[2],[3],[4],[5],[],[],[7,8],[9],[10],[6,11],[12],[],[14,13,0,1,2,3,4,5,6,7,8,9,10,11,12,13,14]]
def VK:IR:=D [o 49 (fa 50 9 1),o 50 (ld 3 49),o 51 (mv 1),o 52 (mv 8),o 53 (ia 43 51 52),o 54 (fa 125 53 2),o 55 (ld 3 54),o 56 (bo .neq (t 50) (t 55)),o 57 (mv 56),oF 58 (fa 50 9 2) 57,oF 59 (ld 3 58) 57,oF 60 (bo .neq (t 59) (n 0)) 57,oF 61 (mv 60) 57,oT 62 (fa 50 9 2) 61,oT 63 (ld 3 62) 61,oT 64 (mv 2) 61,oT 65 (bo .add (t 64) (n 1)) 61,oT 66 (bo .neq (t 63) (t 65)) 61,oF 67 (.pick (.tmp 61) (.tmp 66) (.const (.bool false))) 57,o 68 (.pick (.tmp 57) (.const (.bool true)) (.tmp 67))] [[],[0],[],[],[2,3],[4],[5],[1,6],[7],[8],[9,8],[10,8],[11,8,8],[12],[13,12],[12],[15,12],[14,16,12],[12,17,8],[8,18]]
def EN:IR:=(S (S (R [o 29 (mv 8),o 30 (mv 1),o 31 (len 30 43),o 32 (bo .lss (t 29) (t 31))])
(.cond (t 32)
.skip
(.exit 0 [])))
(S (.block 1 (S VL
(S VK
(.cond (t 68)
(S (R [o 6 (ab false),o 7 (an 0)])
(.ret [6,7]))
.skip))))
(R [o 33 (mv 8),o 34 (bo .add (t 33) (n 1)),o 8 (av 34)])))
def c85:IR:=(S (R [z 3 (bx 23 0),o 6 (ab false),o 7 (an 0)])
(S (S (R [o 10 (ld 23 3),o 11 (cl 55 #[(t 10)] #[23]),o 12 (.unOp .not 4 (.tmp 11)),o 13 (mv 12),oF 14 (mv 1) 13,oF 15 (cl 100 #[(t 14)] #[43]) 13,oF 16 (.unOp .not 4 (.tmp 15)) 13,o 17 (.pick (.tmp 13) (.const (.bool true)) (.tmp 16)),o 18 (mv 17),oF 19 (mv 2) 18,oF 20 (cl 137 #[(t 19)] #[3]) 18,oF 21 (.unOp .not 4 (.tmp 20)) 18,o 22 (.pick (.tmp 18) (.const (.bool true)) (.tmp 21)),o 23 (mv 22),oF 24 (ld 23 3) 23,oF 25 (mv 1) 23,oF 26 (cl 138 #[(t 24),(t 25)] #[23,43]) 23,oF 27 (.unOp .not 4 (.tmp 26)) 23,o 28 (.pick (.tmp 23) (.const (.bool true)) (.tmp 27))])
(.cond (t 28)
(S (R [o 6 (ab false),o 7 (an 900)])
(.ret [6,7]))
.skip))
(S (S (R [o 8 (an 0)])
(.block 0 (.loop [1,2,3,8] EN)))
(S (R [o 6 (ab true),o 7 (an 0)])
(.ret [6,7])))))
def g85:IFn:=⟨69,[.tmp 6,.tmp 7],[4,3],c85,[],false,none⟩
def c86:IR:=(S (R [z 3 (bx 50 0),o 6 (al 50),o 7 (an 0)])
(S (R [o 9 (mv 1),o 10 (mv 2),o 11 (.build 50 #[(0,(.tmp 9)),(1,(.tmp 10))]),o 8 (al 50),w (st 50 8 11)])
(S (S (R [o 12 (ld 50 3),o 13 (cl 95 #[(t 12)] #[50]),o 14 (.unOp .not 4 (.tmp 13)),o 15 (mv 14),oF 16 (ld 50 8) 15,oF 17 (cl 95 #[(t 16)] #[50]) 15,oF 18 (.unOp .not 4 (.tmp 17)) 15,o 19 (.pick (.tmp 15) (.const (.bool true)) (.tmp 18))])
(.cond (t 19)
(S (R [o 20 (.build 50 #[]),w (st 50 6 20),o 7 (an 300)])
(.ret [6,7]))
.skip))
(S (R [o 21 (ld 50 8),w (st 50 6 21),o 7 (an 0)])
(.ret [6,7])))))
def g86:IFn:=⟨22,[.cell 6 50,.tmp 7],[50,3],c86,[],false,none⟩
def VJ:IR:=D [o 13 (fa 28 4 4),o 14 (ld 26 13),o 15 (fa 28 4 3),o 16 (ld 25 15),o 17 (mv 1),o 18 (ia 25 16 17),o 19 (fa 46 18 0),o 20 (ld 3 19),o 21 (fa 28 4 3),o 22 (ld 25 21),o 23 (mv 1),o 24 (ia 25 22 23),o 25 (fa 46 24 1),o 26 (ld 3 25),o 27 (mv 2),o 28 (mv 3),o 29 (.build 90 #[(0,(.tmp 20)),(1,(.tmp 26)),(2,(.tmp 27)),(3,(.tmp 28))]),o 30 (.buildSlice 26 1 #[(0,(.tmp 29))]),o 31 (.call { callee:=(.builtin .append),args:=#[(.tmp 14),(.tmp 30)],argTypes:=#[26,26] }),o 32 (fa 28 4 4),w (st 26 32 31)] [[],[0],[],[2],[],[3,4],[5],[6],[],[8],[],[9,10],[11],[12],[],[],[7,13,14,15],[16],[1,17],[0,1,2,3,4,5,6,7,8,9,10,11,12,13,14,15,16,17,18],[19,18,18,0,1,2,3,4,5,6,7,8,9,10,11,12,13,14,15,16,17,18]]
def c87:IR:=(S (R [o 4 (bx 28 0),o 8 (al 28)])
(S (S (R [o 9 (fa 28 4 4),o 10 (ld 26 9),o 11 (len 10 26),o 12 (bo .lss (t 11) (n 512))])
(.cond (t 12)
VJ
.skip))
(S (R [o 33 (ld 28 4),w (st 28 8 33)])
(.ret [8]))))
def g87:IFn:=⟨34,[.cell 8 28],[28],c87,[true],false,none⟩
def VI:IR:=D [o 27 (mv 1),o 28 (mv 6),o 29 (ia 43 27 28),o 30 (fa 125 29 0),o 31 (ld 3 30),o 32 (ia 23 2 31),o 33 (ld 22 32),o 34 (mv 1),o 35 (mv 6),o 36 (ia 43 34 35),o 37 (fa 125 36 1),o 38 (ld 3 37),o 39 (ia 22 33 38),o 40 (fa 50 39 1),o 41 (ld 3 40),o 42 (mv 1),o 43 (mv 6),o 44 (ia 43 42 43),o 45 (fa 125 44 2),o 46 (ld 3 45),o 47 (bo .neq (t 41) (t 46))] [[],[],[0,1],[2],[3],[4],[5],[],[],[7,8],[9],[10],[6,11],[12],[13],[],[],[15,16],[17],[18],[14,19]]
def Js:IR:=(S (S (R [o 21 (mv 6),o 22 (mv 1),o 23 (len 22 43),o 24 (bo .lss (t 21) (t 23))])
(.cond (t 24)
.skip
(.exit 0 [])))
(S (.block 1 (S VI
(.cond (t 47)
(S (R [o 4 (ab true),o 5 (an 0)])
(.ret [4,5]))
.skip)))
(R [o 25 (mv 6),o 26 (bo .add (t 25) (n 1)),o 6 (av 26)])))
def c88:IR:=(S (R [z 2 (bx 23 0),o 4 (ab false),o 5 (an 0)])
(S (S (R [o 7 (ld 23 2),o 8 (cl 55 #[(t 7)] #[23]),o 9 (.unOp .not 4 (.tmp 8)),o 10 (mv 9),oF 11 (mv 1) 10,oF 12 (cl 100 #[(t 11)] #[43]) 10,oF 13 (.unOp .not 4 (.tmp 12)) 10,o 14 (.pick (.tmp 10) (.const (.bool true)) (.tmp 13)),o 15 (mv 14),oF 16 (ld 23 2) 15,oF 17 (mv 1) 15,oF 18 (cl 138 #[(t 16),(t 17)] #[23,43]) 15,oF 19 (.unOp .not 4 (.tmp 18)) 15,o 20 (.pick (.tmp 15) (.const (.bool true)) (.tmp 19))])
(.cond (t 20)
(S (R [o 4 (ab false),o 5 (an 900)])
(.ret [4,5]))
.skip))
(S (S (R [o 6 (an 0)])
(.block 0 (.loop [1,2,6] Js)))
(S (R [o 4 (ab false),o 5 (an 0)])
(.ret [4,5])))))
def g88:IFn:=⟨48,[.tmp 4,.tmp 5],[4,3],c88,[],false,none⟩
def SO:IR:=(S (S (R [o 3 (mv 2),o 4 (mv 0),o 5 (len 4 22),o 6 (bo .lss (t 3) (t 5))])
(.cond (t 6)
.skip
(.exit 0 [])))
(S (.block 1 (R [o 9 (mv 0),o 10 (mv 2),o 11 (mv 0),o 12 (mv 2),o 13 (ia 22 11 12),o 14 (fa 50 13 0),o 15 (ld 3 14),o 16 (bo .xor (t 15) (n 90)),o 17 (ia 22 9 10),o 18 (fa 50 17 0),w (st 3 18 16)]))
(R [o 7 (mv 2),o 8 (bo .add (t 7) (n 1)),o 2 (av 8)])))
def c89:IR:=(S (R [o 2 (an 0)])
(.block 0 (.loop [0,2] SO)))
def g89:IFn:=⟨19,[],[],c89,[true],false,none⟩
def SN:IR:=(S (S (R [o 3 (mv 2),o 4 (mv 0),o 5 (len 4 42),o 6 (bo .lss (t 3) (t 5))])
(.cond (t 6)
.skip
(.exit 0 [])))
(S (.block 1 (R [o 9 (mv 0),o 10 (mv 2),o 11 (mv 0),o 12 (mv 2),o 13 (ia 42 11 12),o 14 (fa 52 13 1),o 15 (ld 3 14),o 16 (bo .xor (t 15) (n 90)),o 17 (ia 42 9 10),o 18 (fa 52 17 1),w (st 3 18 16)]))
(R [o 7 (mv 2),o 8 (bo .add (t 7) (n 1)),o 2 (av 8)])))
def c90:IR:=(S (R [o 2 (an 0)])
(.block 0 (.loop [0,2] SN)))
def g90:IFn:=⟨19,[],[],c90,[true],false,none⟩
def SM:IR:=(S (S (R [o 3 (mv 2),o 4 (mv 0),o 5 (len 4 43),o 6 (bo .lss (t 3) (t 5))])
(.cond (t 6)
.skip
(.exit 0 [])))
(S (.block 1 (R [o 9 (mv 0),o 10 (mv 2),o 11 (mv 0),o 12 (mv 2),o 13 (ia 43 11 12),o 14 (fa 125 13 1),o 15 (ld 3 14),o 16 (bo .xor (t 15) (n 90)),o 17 (ia 43 9 10),o 18 (fa 125 17 1),w (st 3 18 16)]))
(R [o 7 (mv 2),o 8 (bo .add (t 7) (n 1)),o 2 (av 8)])))
def c91:IR:=(S (R [o 2 (an 0)])
(.block 0 (.loop [0,2] SM)))
def g91:IFn:=⟨19,[],[],c91,[true],false,none⟩
def SL:IR:=(S (S (R [o 3 (mv 2),o 4 (mv 0),o 5 (len 4 44),o 6 (bo .lss (t 3) (t 5))])
(.cond (t 6)
.skip
(.exit 0 [])))
(S (.block 1 (R [o 9 (mv 0),o 10 (mv 2),o 11 (mv 0),o 12 (mv 2),o 13 (ia 44 11 12),o 14 (fa 106 13 1),o 15 (ld 3 14),o 16 (bo .xor (t 15) (n 90)),o 17 (ia 44 9 10),o 18 (fa 106 17 1),w (st 3 18 16)]))
(R [o 7 (mv 2),o 8 (bo .add (t 7) (n 1)),o 2 (av 8)])))
def c92:IR:=(S (R [o 2 (an 0)])
(.block 0 (.loop [0,2] SL)))
def g92:IFn:=⟨19,[],[],c92,[true],false,none⟩
def VH:IR:=D [o 32 (mv 5),o 33 (mv 5),o 34 (ia 23 4 33),o 35 (ld 22 34),o 36 (mv 5),o 37 (ia 81 1 36),o 38 (ld 59 37),o 39 (mv 6),o 40 (ia 59 38 39),o 41 (ld 3 40),o 42 (.build 50 #[(0,(.tmp 41))]),o 43 (.buildSlice 22 1 #[(0,(.tmp 42))]),o 44 (.call { callee:=(.builtin .append),args:=#[(.tmp 35),(.tmp 43)],argTypes:=#[22,22] }),o 45 (ia 23 4 32),w (st 22 45 44)] [[],[],[1],[2],[],[4],[5],[],[6,7],[8],[9],[10],[3,11],[0,0,1,2,3,4,5,6,7,8,9,10,11,12],[13,12,12,0,1,2,3,4,5,6,7,8,9,10,11,12]]
def wL:IR:=(S (S (R [o 11 (mv 6),o 12 (mv 5),o 13 (ia 81 1 12),o 14 (ld 59 13),o 15 (len 14 59),o 16 (bo .lss (t 11) (t 15))])
(.cond (t 16)
.skip
(.exit 2 [1,2,4,5])))
(S (.block 3 (S (S (R [o 19 (mv 6),o 20 (bo .geq (t 19) (n 4)),o 21 (mv 20),oF 22 (mv 5) 21,oF 23 (ia 81 1 22) 21,oF 24 (ld 59 23) 21,oF 25 (mv 6) 21,oF 26 (ia 59 24 25) 21,oF 27 (ld 3 26) 21,oF 28 (cl 102 #[(t 27)] #[3]) 21,oF 29 (.unOp .not 4 (.tmp 28)) 21,o 30 (.pick (.tmp 21) (.const (.bool true)) (.tmp 29))])
(.cond (t 30)
(S (R [o 31 (.build 23 #[]),w (st 23 2 31),o 3 (an 400)])
(.ret [2,3]))
.skip))
VH))
(R [o 17 (mv 6),o 18 (bo .add (t 17) (n 1)),o 6 (av 18)])))
def wK:IR:=(S (S (R [o 7 (mv 5),o 8 (bo .lss (t 7) (n 4))])
(.cond (t 8)
.skip
(.exit 0 [2,4])))
(S (.block 1 (S (R [o 6 (an 0)])
(.block 2 (.loop [1,2,4,5,6] wL))))
(R [o 9 (mv 5),o 10 (bo .add (t 9) (n 1)),o 5 (av 10)])))
def c93:IR:=(S (R [z 1 (bx 81 0),o 2 (al 23),o 3 (an 0)])
(S (R [o 4 (al 23)])
(S (S (R [o 5 (an 0)])
(.block 0 (.loop [1,2,4,5] wK)))
(S (R [o 46 (ld 23 4),w (st 23 2 46),o 3 (an 0)])
(.ret [2,3])))))
def g93:IFn:=⟨47,[.cell 2 23,.tmp 3],[23,3],c93,[],false,none⟩
def VG:IR:=D [o 8 (fa 83 1 0),o 9 (ld 3 8),o 10 (fa 83 1 1),o 11 (ld 3 10),o 12 (fa 83 1 2),o 13 (ld 3 12),o 14 (.buildSlice 42 0 #[]),o 15 (fa 83 1 3),o 16 (ld 42 15),o 17 (.call { callee:=(.builtin .append),args:=#[(.tmp 14),(.tmp 16)],argTypes:=#[42,42] }),o 18 (.build 46 #[(0,(.tmp 9)),(1,(.tmp 11)),(2,(.tmp 13)),(3,(.tmp 17))]),w (st 46 2 18),o 3 (an 0)] [[],[0],[],[2],[],[4],[],[],[7],[6,8],[1,3,5,9],[10,9,0,1,2,3,4,5,6,7,8,9,10],[11,0,1,2,3,4,5,6,7,8,9,10,11]]
def c94:IR:=(S (R [z 1 (bx 83 0),o 2 (al 46),o 3 (an 0)])
(S (S (R [o 4 (ld 83 1),o 5 (cl 97 #[(t 4)] #[83]),o 6 (.unOp .not 4 (.tmp 5))])
(.cond (t 6)
(S (R [o 7 (.build 46 #[]),w (st 46 2 7),o 3 (an 1100)])
(.ret [2,3]))
.skip))
(S VG
(.ret [2,3]))))
def g94:IFn:=⟨19,[.cell 2 46,.tmp 3],[46,3],c94,[],false,none⟩
def c95:IR:=(S (R [z 1 (bx 50 0),o 2 (ab false)])
(S (R [o 3 (fa 50 1 0),o 4 (ld 3 3),o 5 (cl 102 #[(t 4)] #[3]),o 6 (mv 5),oT 7 (fa 50 1 1) 6,oT 8 (ld 3 7) 6,oT 9 (cl 56 #[(t 8)] #[3]) 6,o 10 (.pick (.tmp 6) (.tmp 9) (.const (.bool false))),o 11 (mv 10),oT 12 (fa 50 1 2) 11,oT 13 (ld 3 12) 11,oT 14 (cl 96 #[(t 13),(n 0),(n 255)] #[3,3,3]) 11,o 15 (.pick (.tmp 11) (.tmp 14) (.const (.bool false))),o 2 (av 15)])
(.ret [2])))
def g95:IFn:=⟨16,[.tmp 2],[4],c95,[],false,none⟩
def c96:IR:=(S (R [o 6 (ab false)])
(S (R [o 7 (mv 0),o 8 (mv 1),o 9 (bo .geq (t 7) (t 8)),o 10 (mv 9),oT 11 (mv 0) 10,oT 12 (mv 2) 10,oT 13 (bo .leq (t 11) (t 12)) 10,o 14 (.pick (.tmp 10) (.tmp 13) (.const (.bool false))),o 6 (av 14)])
(.ret [6])))
def g96:IFn:=⟨15,[.tmp 6],[4],c96,[],false,none⟩
def c97:IR:=(S (R [z 1 (bx 83 0),o 2 (ab false)])
(S (R [o 3 (fa 83 1 0),o 4 (ld 3 3),o 5 (cl 137 #[(t 4)] #[3]),o 6 (mv 5),oT 7 (fa 83 1 1) 6,oT 8 (ld 3 7) 6,oT 9 (cl 59 #[(t 8)] #[3]) 6,o 10 (.pick (.tmp 6) (.tmp 9) (.const (.bool false))),o 11 (mv 10),oT 12 (fa 83 1 2) 11,oT 13 (ld 3 12) 11,oT 14 (cl 59 #[(t 13)] #[3]) 11,o 15 (.pick (.tmp 11) (.tmp 14) (.const (.bool false))),o 16 (mv 15),oT 17 (fa 83 1 1) 16,oT 18 (ld 3 17) 16,oT 19 (fa 83 1 2) 16,oT 20 (ld 3 19) 16,oT 21 (cl 130 #[(t 18),(t 20)] #[3,3]) 16,o 22 (.pick (.tmp 16) (.tmp 21) (.const (.bool false))),o 23 (mv 22),oT 24 (fa 83 1 3) 23,oT 25 (ld 42 24) 23,oT 26 (cl 139 #[(t 25)] #[42]) 23,o 27 (.pick (.tmp 23) (.tmp 26) (.const (.bool false))),o 2 (av 27)])
(.ret [2])))
def g97:IFn:=⟨28,[.tmp 2],[4],c97,[],false,none⟩
def VF:IR:=D [o 21 (mv 6),o 22 (bo .eql (t 21) (n 2)),o 23 (mv 22),oF 24 (mv 6) 23,oF 25 (bo .eql (t 24) (n 3)) 23,o 26 (.pick (.tmp 23) (.const (.bool true)) (.tmp 25)),o 27 (mv 26),oT 28 (ld 23 2) 27,oT 29 (fa 46 3 3) 27,oT 30 (ld 42 29) 27,oT 31 (mv 5) 27,oT 32 (ia 42 30 31) 27,oT 33 (fa 52 32 2) 27,oT 34 (ld 3 33) 27,oT 35 (fa 46 3 3) 27,oT 36 (ld 42 35) 27,oT 37 (mv 5) 27,oT 38 (ia 42 36 37) 27,oT 39 (fa 52 38 3) 27,oT 40 (ld 3 39) 27,oT 41 (cl 140 #[(t 28),(t 34),(t 40)] #[23,3,3]) 27,oT 42 (.unOp .not 4 (.tmp 41)) 27,o 43 (.pick (.tmp 27) (.tmp 42) (.const (.bool false)))] [[],[0],[1],[2],[3,2],[2,4],[5,2],[6],[6],[8,6],[6],[9,10,6],[11,6],[12,6],[6],[14,6],[6],[15,16,6],[17,6],[18,6],[7,13,19,6,6],[20,6],[6,21]]
def Ng:IR:=(S (S (R [o 8 (mv 5),o 9 (fa 46 3 3),o 10 (ld 42 9),o 11 (len 10 42),o 12 (bo .lss (t 8) (t 11))])
(.cond (t 12)
.skip
(.exit 0 [2,3])))
(S (.block 1 (S (R [o 15 (fa 46 3 3),o 16 (ld 42 15),o 17 (mv 5),o 18 (ia 42 16 17),o 19 (fa 52 18 0),o 20 (ld 3 19),o 6 (av 20)])
(S VF
(.cond (t 43)
(S (R [o 4 (ab false)])
(.ret [4]))
.skip))))
(R [o 13 (mv 5),o 14 (bo .add (t 13) (n 1)),o 5 (av 14)])))
def VE:IR:=D [o 51 (ld 23 2),o 52 (fa 46 3 8),o 53 (ld 44 52),o 54 (mv 7),o 55 (ia 44 53 54),o 56 (fa 106 55 0),o 57 (ld 3 56),o 58 (fa 46 3 8),o 59 (ld 44 58),o 60 (mv 7),o 61 (ia 44 59 60),o 62 (fa 106 61 1),o 63 (ld 3 62),o 64 (cl 140 #[(t 51),(t 57),(t 63)] #[23,3,3]),o 65 (.unOp .not 4 (.tmp 64))] [[],[],[1],[],[2,3],[4],[5],[],[7],[],[8,9],[10],[11],[0,6,12],[13]]
def OM:IR:=(S (S (R [o 44 (mv 7),o 45 (fa 46 3 8),o 46 (ld 44 45),o 47 (len 46 44),o 48 (bo .lss (t 44) (t 47))])
(.cond (t 48)
.skip
(.exit 2 [2,3])))
(S (.block 3 (S VE
(.cond (t 65)
(S (R [o 4 (ab false)])
(.ret [4]))
.skip)))
(R [o 49 (mv 7),o 50 (bo .add (t 49) (n 1)),o 7 (av 50)])))
def c98:IR:=(S (R [z 2 (bx 23 0),z 3 (bx 46 1),o 4 (ab false)])
(S (S (R [o 5 (an 0)])
(.block 0 (.loop [2,3,5] Ng)))
(S (S (R [o 7 (an 0)])
(.block 2 (.loop [2,3,7] OM)))
(S (R [o 66 (ld 23 2),o 67 (fa 46 3 7),o 68 (ld 43 67),o 69 (cl 138 #[(t 66),(t 68)] #[23,43]),o 4 (av 69)])
(.ret [4])))))
def g98:IFn:=⟨70,[.tmp 4],[4],c98,[],false,none⟩
def mJ:IR:=(S (S (R [o 4 (mv 3),o 5 (bo .lss (t 4) (n 4))])
(.cond (t 5)
.skip
(.exit 0 [])))
(S (.block 1 (S (R [o 8 (mv 3),o 9 (ia 24 1 8),o 10 (ld 3 9),o 11 (cl 102 #[(t 10)] #[3]),o 12 (.unOp .not 4 (.tmp 11))])
(.cond (t 12)
(S (R [o 2 (ab false)])
(.ret [2]))
.skip)))
(R [o 6 (mv 3),o 7 (bo .add (t 6) (n 1)),o 3 (av 7)])))
def c99:IR:=(S (R [z 1 (bx 24 0),o 2 (ab false)])
(S (S (R [o 3 (an 0)])
(.block 0 (.loop [1,3] mJ)))
(S (R [o 2 (ab true)])
(.ret [2]))))
def g99:IFn:=⟨13,[.tmp 2],[4],c99,[],false,none⟩
def QL:IR:=D [o 11 (mv 0),o 12 (mv 3),o 13 (ia 43 11 12),o 14 (fa 125 13 0),o 15 (ld 3 14),o 16 (mv 0),o 17 (mv 3),o 18 (ia 43 16 17),o 19 (fa 125 18 1),o 20 (ld 3 19),o 21 (cl 141 #[(t 15),(t 20)] #[3,3]),o 22 (.unOp .not 4 (.tmp 21)),o 23 (mv 22),oF 24 (mv 0) 23,oF 25 (mv 3) 23,oF 26 (ia 43 24 25) 23,oF 27 (fa 125 26 2) 23,oF 28 (ld 3 27) 23,oF 29 (cl 56 #[(t 28)] #[3]) 23,oF 30 (.unOp .not 4 (.tmp 29)) 23,o 31 (.pick (.tmp 23) (.const (.bool true)) (.tmp 30))] [[],[],[0,1],[2],[3],[],[],[5,6],[7],[8],[4,9],[10],[11,10],[12],[12],[13,14,12],[15,12],[16,12],[17,12,12],[18,12],[12,19]]
def QK:IR:=D [o 37 (mv 0),o 38 (mv 4),o 39 (ia 43 37 38),o 40 (fa 125 39 0),o 41 (ld 3 40),o 42 (mv 0),o 43 (mv 3),o 44 (ia 43 42 43),o 45 (fa 125 44 0),o 46 (ld 3 45),o 47 (bo .eql (t 41) (t 46)),o 48 (mv 47),oT 49 (mv 0) 48,oT 50 (mv 4) 48,oT 51 (ia 43 49 50) 48,oT 52 (fa 125 51 1) 48,oT 53 (ld 3 52) 48,oT 54 (mv 0) 48,oT 55 (mv 3) 48,oT 56 (ia 43 54 55) 48,oT 57 (fa 125 56 1) 48,oT 58 (ld 3 57) 48,oT 59 (bo .eql (t 53) (t 58)) 48,o 60 (.pick (.tmp 48) (.tmp 59) (.const (.bool false)))] [[],[],[0,1],[2],[3],[],[],[5,6],[7],[8],[4,9],[10],[11],[11],[12,13,11],[14,11],[15,11],[11],[11],[17,18,11],[19,11],[20,11],[16,21,11],[11,22]]
def JK:IR:=(S (S (R [o 32 (mv 4),o 33 (mv 3),o 34 (bo .lss (t 32) (t 33))])
(.cond (t 34)
.skip
(.exit 2 [0,3])))
(S (.block 3 (S QK
(.cond (t 60)
(S (R [o 2 (ab false)])
(.ret [2]))
.skip)))
(R [o 35 (mv 4),o 36 (bo .add (t 35) (n 1)),o 4 (av 36)])))
def IF:IR:=(S (S (R [o 5 (mv 3),o 6 (mv 0),o 7 (len 6 43),o 8 (bo .lss (t 5) (t 7))])
(.cond (t 8)
.skip
(.exit 0 [0])))
(S (.block 1 (S (S QL
(.cond (t 31)
(S (R [o 2 (ab false)])
(.ret [2]))
.skip))
(S (R [o 4 (an 0)])
(.block 2 (.loop [0,3,4] JK)))))
(R [o 9 (mv 3),o 10 (bo .add (t 9) (n 1)),o 3 (av 10)])))
def zR:IR:=(S (R [o 2 (ab false)])
(S (S (R [o 3 (an 0)])
(.block 0 (.loop [0,3] IF)))
(S (R [o 61 (mv 0),o 62 (len 61 43),o 63 (bo .leq (t 62) (n 16)),o 2 (av 63)])
(.ret [2]))))
def g100:IFn:=⟨64,[.tmp 2],[4],zR,[],false,none⟩
def QJ:IR:=D [o 10 (mv 0),o 11 (mv 3),o 12 (ia 44 10 11),o 13 (fa 106 12 0),o 14 (ld 3 13),o 15 (mv 0),o 16 (mv 3),o 17 (ia 44 15 16),o 18 (fa 106 17 1),o 19 (ld 3 18),o 20 (cl 141 #[(t 14),(t 19)] #[3,3]),o 21 (.unOp .not 4 (.tmp 20)),o 22 (mv 21),oF 23 (mv 0) 22,oF 24 (mv 3) 22,oF 25 (ia 44 23 24) 22,oF 26 (fa 106 25 2) 22,oF 27 (ld 3 26) 22,oF 28 (cl 102 #[(t 27)] #[3]) 22,oF 29 (.unOp .not 4 (.tmp 28)) 22,o 30 (.pick (.tmp 22) (.const (.bool true)) (.tmp 29)),o 31 (mv 30),oF 32 (mv 3) 31,oF 33 (bo .gtr (t 32) (n 0)) 31,oF 34 (mv 33) 31,oT 35 (mv 0) 34,oT 36 (mv 3) 34,oT 37 (ia 44 35 36) 34,oT 38 (fa 106 37 0) 34,oT 39 (ld 3 38) 34,oT 40 (mv 0) 34,oT 41 (mv 3) 34,oT 42 (ia 44 40 41) 34,oT 43 (fa 106 42 1) 34,oT 44 (ld 3 43) 34,oT 45 (cl 142 #[(t 39),(t 44)] #[3,3]) 34,oT 46 (mv 0) 34,oT 47 (mv 3) 34,oT 48 (bo .sub (t 47) (n 1)) 34,oT 49 (ia 44 46 48) 34,oT 50 (fa 106 49 0) 34,oT 51 (ld 3 50) 34,oT 52 (mv 0) 34,oT 53 (mv 3) 34,oT 54 (bo .sub (t 53) (n 1)) 34,oT 55 (ia 44 52 54) 34,oT 56 (fa 106 55 1) 34,oT 57 (ld 3 56) 34,oT 58 (cl 142 #[(t 51),(t 57)] #[3,3]) 34,oT 59 (bo .leq (t 45) (t 58)) 34,oF 60 (.pick (.tmp 34) (.tmp 59) (.const (.bool false))) 31,o 61 (.pick (.tmp 31) (.const (.bool true)) (.tmp 60))] [[],[],[0,1],[2],[3],[],[],[5,6],[7],[8],[4,9],[10],[11,10],[12],[12],[13,14,12],[15,12],[16,12],[17,12,12],[18,12],[12,19],[20,18],[21],[22,21],[23,21,21],[24],[24],[25,26,24],[27,24],[28,24],[24],[24],[30,31,24],[32,24],[33,24],[29,34,24,24],[24],[24],[37,24],[36,38,24],[39,24],[40,24],[24],[24],[43,24],[42,44,24],[45,24],[46,24],[41,47,35,24],[35,48,24],[24,49,21],[21,50]]
def FG:IR:=(S (S (R [o 4 (mv 3),o 5 (mv 0),o 6 (len 5 44),o 7 (bo .lss (t 4) (t 6))])
(.cond (t 7)
.skip
(.exit 0 [0])))
(S (.block 1 (S QJ
(.cond (t 61)
(S (R [o 2 (ab false)])
(.ret [2]))
.skip)))
(R [o 8 (mv 3),o 9 (bo .add (t 8) (n 1)),o 3 (av 9)])))
def zQ:IR:=(S (R [o 2 (ab false)])
(S (S (R [o 3 (an 0)])
(.block 0 (.loop [0,3] FG)))
(S (R [o 62 (mv 0),o 63 (len 62 44),o 64 (bo .leq (t 63) (n 16)),o 2 (av 64)])
(.ret [2]))))
def g101:IFn:=⟨65,[.tmp 2],[4],zQ,[],false,none⟩
def zP:IR:=(S (R [o 2 (ab false)])
(S (R [o 3 (mv 0),o 4 (cl 96 #[(t 3),(n 0),(n 255)] #[3,3,3]),o 2 (av 4)])
(.ret [2])))
def g102:IFn:=⟨5,[.tmp 2],[4],zP,[],false,none⟩
def dJ:IR:=(S (R [o 8 (bo .lss (t 7) (n 4))])
(S (.cond (t 8)
.skip
(.exit 0 []))
(S (.block 1 (S (R [o 9 (.index 23 (.tmp 6) (.tmp 7)),o 5 (av 9)])
(S (R [o 10 (mv 5),o 11 (len 10 22),o 12 (bo .gtr (t 11) (n 4)),o 13 (mv 12),oF 14 (mv 5) 13,oF 15 (mv 3) 13,oF 16 (cl 145 #[(t 14),(t 15)] #[22,126]) 13,o 17 (.pick (.tmp 13) (.const (.bool true)) (.tmp 16))])
(.cond (t 17)
(S (R [o 2 (ab false)])
(.ret [2]))
.skip))))
(R [o 18 (bo .add (t 7) (n 1)),o 7 (mv 18)]))))
def zO:IR:=(S (R [z 1 (bx 23 0),o 2 (ab false)])
(S (R [o 3 (.assign (.func 143))])
(S (S (R [o 6 (ld 23 1),o 7 (.move (.const (.int .i64 0)))])
(.block 0 (.loop [3,6,7] dJ)))
(S (R [o 2 (ab true)])
(.ret [2])))))
def g103:IFn:=⟨19,[.tmp 2],[4],zO,[],false,none⟩
def Un:IR:=(S (R [o 9 (bo .lss (t 8) (n 4))])
(S (.cond (t 9)
.skip
(.exit 0 [1]))
(S (.block 1 (S (R [o 10 (nc 7),o 11 (ia 24 10 8),o 12 (ld 3 11),o 6 (av 12)])
(S (R [o 13 (mv 6),o 14 (cl 146 #[(t 13)] #[3]),o 15 (.unOp .not 4 (.tmp 14))])
(.cond (t 15)
(S (R [o 4 (ab false)])
(.ret [4]))
.skip))))
(R [o 16 (bo .add (t 8) (n 1)),o 8 (mv 16)]))))
def sE:IR:=(S (R [o 4 (ab false)])
(S (S (R [o 7 (mv 0),o 8 (.move (.const (.int .i64 0)))])
(.block 0 (.loop [1,7,8] Un)))
(S (R [o 17 (mv 1),o 18 (cl 146 #[(t 17)] #[3]),o 4 (av 18)])
(.ret [4]))))
def g104:IFn:=⟨19,[.tmp 4],[4],sE,[],false,none⟩
def dI:IR:=(S (S (R [o 12 (mv 4),o 13 (mv 0),o 14 (len 13 59),o 15 (bo .lss (t 12) (t 14))])
(.cond (t 15)
.skip
(.exit 0 [3])))
(S (.block 1 (R [o 18 (mv 3),o 19 (mv 0),o 20 (mv 4),o 21 (ia 59 19 20),o 22 (ld 3 21),o 23 (.call { callee:=(.builtin .max),args:=#[(.tmp 18),(.tmp 22)],argTypes:=#[3,3] }),o 3 (av 23)]))
(R [o 16 (mv 4),o 17 (bo .add (t 16) (n 1)),o 4 (av 17)])))
def zN:IR:=(S (R [o 2 (an 0)])
(S (S (R [o 5 (mv 0),o 6 (len 5 59),o 7 (bo .lss (t 6) (n 1))])
(.cond (t 7)
(R [o 8 (.makeInterface 9 (.const (.string { data:=#[115,108,105,99,101,115,46,77,97,120,58,32,101,109,112,116,121,32,108,105,115,116] }))),w (.panic (.tmp 8))])
.skip))
(S (R [o 9 (mv 0),o 10 (.indexAddr 59 (.tmp 9) (.const (.int .i64 0))),o 11 (ld 3 10),o 3 (av 11)])
(S (S (R [o 4 (an 1)])
(.block 0 (.loop [0,3,4] dI)))
(S (R [o 24 (mv 3),o 2 (av 24)])
(.ret [2]))))))
def g105:IFn:=⟨25,[.tmp 2],[3],zN,[],false,none⟩
def zL:IR:=(S (R [z 1 (bx 90 0),o 2 (ab false)])
(S (R [o 3 (fa 90 1 1),o 4 (ld 3 3),o 5 (cl 107 #[(t 4)] #[3]),o 2 (av 5)])
(.ret [2])))
def g106:IFn:=⟨6,[.tmp 2],[4],zL,[],false,none⟩
def zK:IR:=(S (R [o 2 (ab false)])
(S (R [o 3 (mv 0),o 4 (bo .geq (t 3) (n 0)),o 5 (mv 4),oT 6 (mv 0) 5,oT 7 (bo .lss (t 6) (n 4)) 5,o 8 (.pick (.tmp 5) (.tmp 7) (.const (.bool false))),o 2 (av 8)])
(.ret [2])))
def g107:IFn:=⟨9,[.tmp 2],[4],zK,[],false,none⟩
def zJ:IR:=(S (R [z 3 (bx 137 1),o 4 (ab false)])
(S (R [o 5 (mv 0),o 6 (.makeFunc (Go.Fn.func 148) #[] #[(.tmp 3)]),o 7 (cl 147 #[(t 5),(t 6)] #[25,137]),o 8 (.unOp .not 4 (.tmp 7)),o 4 (av 8)])
(.ret [4])))
def g108:IFn:=⟨9,[.tmp 4],[4],zJ,[],false,none⟩
def zI:IR:=(S (R [z 2 (bx 140 0),z 3 (bx 46 1),o 4 (ab false)])
(S (R [o 8 (fa 46 3 0),o 9 (ld 3 8),o 10 (fa 46 3 1),o 11 (ld 3 10),o 12 (fa 46 3 2),o 13 (ld 3 12),o 14 (fa 46 3 3),o 15 (ld 42 14),o 16 (.build 83 #[(0,(.tmp 9)),(1,(.tmp 11)),(2,(.tmp 13)),(3,(.tmp 15))]),o 17 (cl 149 #[(t 16)] #[83]),o 5 (av 17)])
(S (R [o 18 (fa 46 3 7),o 19 (ld 43 18),o 20 (cl 150 #[(t 19)] #[43]),o 21 (mv 20),oT 22 (fa 46 3 8) 21,oT 23 (ld 44 22) 21,oT 24 (cl 151 #[(t 23)] #[44]) 21,o 25 (.pick (.tmp 21) (.tmp 24) (.const (.bool false))),o 26 (mv 25),oT 27 (fa 46 3 7) 26,oT 28 (ld 43 27) 26,oT 29 (ld 140 2) 26,oT 30 (.makeFunc (Go.Fn.func 153) #[(.tmp 29)] #[]) 26,oT 31 (cl 152 #[(t 28),(t 30)] #[43,174]) 26,o 32 (.pick (.tmp 26) (.tmp 31) (.const (.bool false))),o 33 (mv 32),oT 34 (fa 46 3 8) 33,oT 35 (ld 44 34) 33,oT 36 (ld 140 2) 33,oT 37 (.makeFunc (Go.Fn.func 155) #[(.tmp 36)] #[]) 33,oT 38 (cl 154 #[(t 35),(t 37)] #[44,176]) 33,o 39 (.pick (.tmp 33) (.tmp 38) (.const (.bool false))),o 40 (mv 39),oT 41 (fa 46 3 3) 40,oT 42 (ld 42 41) 40,oT 43 (ld 140 2) 40,oT 44 (.makeFunc (Go.Fn.func 157) #[(.tmp 43)] #[]) 40,oT 45 (cl 156 #[(t 42),(t 44)] #[42,178]) 40,o 46 (.pick (.tmp 40) (.tmp 45) (.const (.bool false))),o 6 (av 46)])
(S (R [o 47 (fa 46 3 5),o 48 (ld 3 47),o 49 (fa 46 3 3),o 50 (ld 42 49),o 51 (len 50 42),o 52 (cl 158 #[(t 48),(t 51)] #[3,3]),o 53 (mv 52),oT 54 (fa 46 3 9) 53,oT 55 (ld 3 54) 53,oT 56 (fa 46 3 8) 53,oT 57 (ld 44 56) 53,oT 58 (len 57 44) 53,oT 59 (cl 158 #[(t 55),(t 58)] #[3,3]) 53,o 60 (.pick (.tmp 53) (.tmp 59) (.const (.bool false))),o 61 (mv 60),oT 62 (fa 46 3 4) 61,oT 63 (ld 3 62) 61,oT 64 (cl 158 #[(t 63),(n 6)] #[3,3]) 61,o 65 (.pick (.tmp 61) (.tmp 64) (.const (.bool false))),o 66 (mv 65),oT 67 (fa 46 3 12) 66,oT 68 (ld 3 67) 66,oT 69 (cl 158 #[(t 68),(n 5)] #[3,3]) 66,o 70 (.pick (.tmp 66) (.tmp 69) (.const (.bool false))),o 7 (av 70)])
(S (R [o 71 (mv 5),o 72 (mv 71),oT 73 (mv 6) 72,o 74 (.pick (.tmp 72) (.tmp 73) (.const (.bool false))),o 75 (mv 74),oT 76 (mv 7) 75,o 77 (.pick (.tmp 75) (.tmp 76) (.const (.bool false))),o 78 (mv 77),oT 79 (fa 46 3 6) 78,oT 80 (cl 159 #[(t 79)] #[133]) 78,o 81 (.pick (.tmp 78) (.tmp 80) (.const (.bool false))),o 82 (mv 81),oT 83 (fa 46 3 10) 82,oT 84 (ld 3 83) 82,oT 85 (cl 146 #[(t 84)] #[3]) 82,o 86 (.pick (.tmp 82) (.tmp 85) (.const (.bool false))),o 87 (mv 86),oT 88 (fa 46 3 11) 87,oT 89 (ld 3 88) 87,oT 90 (cl 146 #[(t 89)] #[3]) 87,o 91 (.pick (.tmp 87) (.tmp 90) (.const (.bool false))),o 92 (mv 91),oT 93 (fa 46 3 13) 92,oT 94 (ld 3 93) 92,oT 95 (cl 160 #[(t 94)] #[3]) 92,o 96 (.pick (.tmp 92) (.tmp 95) (.const (.bool false))),o 4 (av 96)])
(.ret [4]))))))
def g109:IFn:=⟨97,[.tmp 4],[4],zI,[],false,none⟩
def zH:IR:=(S (R [z 3 (bx 135 1),o 4 (ab false)])
(S (R [o 5 (mv 0),o 6 (.makeFunc (Go.Fn.func 162) #[] #[(.tmp 3)]),o 7 (cl 161 #[(t 5),(t 6)] #[26,135]),o 8 (.unOp .not 4 (.tmp 7)),o 4 (av 8)])
(.ret [4])))
def g110:IFn:=⟨9,[.tmp 4],[4],zH,[],false,none⟩
def dH:IR:=(S (R [o 5 (bo .lss (t 4) (n 4))])
(S (.cond (t 5)
.skip
(.exit 0 [1,2]))
(S (.block 1 (S (R [o 6 (mv 4),o 3 (av 6)])
(R [o 7 (mv 3),o 8 (mv 3),o 9 (ia 23 1 8),o 10 (ld 22 9),o 11 (cl 163 #[(t 10)] #[22]),o 12 (ia 23 1 7),w (st 22 12 11)])))
(R [o 13 (bo .add (t 4) (n 1)),o 4 (mv 13)]))))
def zG:IR:=(S (R [o 1 (bx 23 0),o 2 (al 23)])
(S (S (R [o 4 (.move (.const (.int .i64 0)))])
(.block 0 (.loop [1,2,4] dH)))
(S (R [o 14 (ld 23 1),w (st 23 2 14)])
(.ret [2]))))
def g111:IFn:=⟨15,[.cell 2 23],[23],zG,[],false,none⟩
def c112:IR:=(S (R [o 2 (.assign (.const (.slice none 0 0)))])
(S (S (R [o 3 (mv 0),o 4 (.binOp .eql 25 (.tmp 3) (.const (.slice none 0 0)) 25)])
(.cond (t 4)
(S (R [o 2 (.assign (.const (.slice none 0 0)))])
(.ret [2]))
.skip))
(S (R [o 5 (.buildSlice 25 0 #[]),o 6 (mv 0),o 7 (.call { callee:=(.builtin .append),args:=#[(.tmp 5),(.tmp 6)],argTypes:=#[25,25] }),o 2 (av 7)])
(.ret [2]))))
def g112:IFn:=⟨8,[.tmp 2],[25],c112,[],false,some (17,184)⟩
def c113:IR:=(S (R [o 2 (.assign (.const (.slice none 0 0)))])
(S (S (R [o 3 (mv 0),o 4 (.binOp .eql 26 (.tmp 3) (.const (.slice none 0 0)) 26)])
(.cond (t 4)
(S (R [o 2 (.assign (.const (.slice none 0 0)))])
(.ret [2]))
.skip))
(S (R [o 5 (.buildSlice 26 0 #[]),o 6 (mv 0),o 7 (.call { callee:=(.builtin .append),args:=#[(.tmp 5),(.tmp 6)],argTypes:=#[26,26] }),o 2 (av 7)])
(.ret [2]))))
def g113:IFn:=⟨8,[.tmp 2],[26],c113,[],false,some (4,32)⟩
def QI:IR:=D [o 3 (fa 46 1 3),o 4 (ld 42 3),o 5 (cl 164 #[(t 4)] #[42]),o 6 (fa 46 1 7),o 7 (ld 43 6),o 8 (cl 165 #[(t 7)] #[43]),o 9 (fa 46 1 8),o 10 (ld 44 9),o 11 (cl 166 #[(t 10)] #[44]),o 12 (fa 46 1 3),w (st 42 12 5),o 13 (fa 46 1 7),w (st 43 13 8),o 14 (fa 46 1 8),w (st 44 14 11)] [[],[0],[1],[],[3],[4,2],[],[6],[7,5],[0,1,2,3,4,6,7],[9,2,8,0,1,2,3,4,6,7],[0,1,2,3,4,5,6,7,9,10],[11,5,10,0,1,2,3,4,5,6,7,9,10],[0,1,2,3,4,5,6,7,8,9,10,11,12],[13,8,12,0,1,2,3,4,5,6,7,8,9,10,11,12]]
def zE:IR:=(S (R [o 1 (bx 46 0),o 2 (al 46)])
(S QI
(S (R [o 15 (ld 46 1),w (st 46 2 15)])
(.ret [2]))))
def g114:IFn:=⟨16,[.cell 2 46],[46],zE,[],false,none⟩
def QH:IR:=D [o 9 (mv 4),o 10 (nc 9),o 11 (fa 46 10 8),o 12 (ld 44 11),o 13 (mv 4),o 14 (nc 13),o 15 (fa 46 14 1),o 16 (ld 3 15),o 17 (cl 167 #[(t 12),(t 16)] #[44,3]),o 18 (.unOp .not 4 (.tmp 17))] [[],[0],[1],[2],[],[4],[5],[6],[3,7],[8]]
def lF:IR:=(S (R [z 1 (bx 75 0),o 2 (al 28),o 3 (an 0)])
(S (S (R [o 7 (ld 75 1),o 8 (cl 64 #[(t 7)] #[75]),o 4 (av 8)])
(S QH
(.cond (t 18)
(S (R [o 19 (ld 75 1),o 20 (cl 118 #[(t 19),(n 3),(n 0)] #[75,3,3]),o 21 (xt 20 0),o 22 (xt 20 1),w (st 28 2 21),o 3 (av 22)])
(.ret [2,3]))
.skip)))
(S (R [o 23 (fa 75 1 0),o 24 (ld 28 23),o 25 (cl 63 #[(t 24)] #[28]),o 5 (al 28),w (st 28 5 25)])
(S (R [o 26 (fa 28 5 3),o 27 (ld 25 26),o 28 (fa 75 1 1),o 29 (ld 3 28),o 30 (ia 25 27 29),o 6 (av 30)])
(S (S (R [o 31 (mv 6),o 32 (mv 6),o 33 (nc 31),o 34 (fa 46 33 9),w (.store 3 (.tmp 34) (.const (.int .i64 0))),o 35 (nc 32),o 36 (fa 46 35 4),w (.store 3 (.tmp 36) (.const (.int .i64 1)))])
(S (R [o 37 (mv 6),o 38 (nc 37),o 39 (fa 46 38 8),o 40 (ld 44 39),o 41 (len 40 44),o 42 (bo .eql (t 41) (n 0))])
(.cond (t 42)
(R [o 43 (mv 6),o 44 (nc 43),o 45 (fa 46 44 4),w (.store 3 (.tmp 45) (.const (.int .i64 3)))])
.skip)))
(S (R [o 46 (ld 28 5),w (st 28 2 46),o 3 (an 0)])
(.ret [2,3])))))))
def g115:IFn:=⟨47,[.cell 2 28,.tmp 3],[28,30],lF,[],false,none⟩
def sD:IR:=(S (R [z 1 (bx 75 0),o 2 (al 28),o 3 (an 0)])
(S (S (R [o 7 (fa 75 1 0),o 8 (ld 28 7),o 9 (fa 75 1 1),o 10 (ld 3 9),o 11 (cl 168 #[(t 8),(t 10)] #[28,3]),o 6 (mv 11),o 12 (xt 6 0),o 13 (xt 6 1),o 4 (av 12),o 5 (av 13)])
(S (R [o 14 (mv 4)])
(.cond (t 14)
(S (R [o 15 (fa 75 1 0),o 16 (ld 28 15),o 17 (fa 75 1 1),o 18 (ld 3 17),o 19 (cl 169 #[(t 16),(t 18)] #[28,3]),o 20 (xt 19 0),o 21 (xt 19 1),w (st 28 2 20),o 3 (av 21)])
(.ret [2,3]))
.skip)))
(S (R [o 22 (fa 75 1 0),o 23 (ld 28 22),o 24 (fa 75 1 1),o 25 (ld 3 24),o 26 (cl 170 #[(t 23),(t 25)] #[28,3]),o 27 (xt 26 0),o 28 (xt 26 1),w (st 28 2 27),o 3 (av 28)])
(.ret [2,3]))))
def g116:IFn:=⟨29,[.cell 2 28,.tmp 3],[28,30],sD,[],false,none⟩
def QG:IR:=D [o 21 (mv 7),o 22 (nc 21),o 23 (fa 46 22 3),o 24 (ld 42 23),o 25 (mv 7),o 26 (nc 25),o 27 (fa 46 26 5),o 28 (ld 3 27),o 29 (ia 42 24 28),o 30 (ld 52 29),o 8 (al 52),w (st 52 8 30)] [[],[0],[1],[2],[],[4],[5],[6],[3,7],[8],[],[10,9,0,1,2,3,4,5,6,7,8,9,10]]
def QF:IR:=D [o 31 (mv 7),o 32 (fa 52 8 1),o 33 (ld 3 32),o 34 (nc 31),o 35 (fa 46 34 6),o 36 (ia 24 35 33),o 37 (ld 3 36),o 9 (av 37)] [[],[],[1],[0],[3],[4,2],[5],[6,0,1,2,3,4,5,6]]
def QE:IR:=D [o 39 (mv 7),o 40 (mv 7),o 41 (nc 40),o 42 (fa 46 41 8),o 43 (ld 44 42),o 44 (fa 52 8 2),o 45 (ld 3 44),o 46 (fa 52 8 3),o 47 (ld 3 46),o 48 (mv 9),o 49 (.build 106 #[(0,(.tmp 45)),(1,(.tmp 47)),(2,(.tmp 48))]),o 50 (cl 171 #[(t 43),(t 49)] #[44,106]),o 38 (mv 50),o 51 (xt 38 0),o 52 (xt 38 1),o 53 (nc 39),o 54 (fa 46 53 8),w (st 44 54 51)] [[],[],[1],[2],[3],[],[5],[],[7],[],[6,8,9],[4,10],[11],[12],[12],[0,0,1,2,3,4,5,6,7,8,9,10,11,12,13],[15,0,1,2,3,4,5,6,7,8,9,10,11,12,13],[16,13,11,0,1,2,3,4,5,6,7,8,9,10,11,12,13]]
def sC:IR:=(S (R [z 2 (bx 28 0),o 4 (al 28),o 5 (an 0)])
(S (S (R [o 10 (mv 1),o 11 (.buildSlice 59 1 #[(0,(.const (.int .i64 3)))]),o 12 (cl 127 #[(t 2),(t 10),(t 11)] #[73,3,59]),o 13 (.unOp .not 4 (.tmp 12))])
(.cond (t 13)
(S (R [o 14 (.build 28 #[]),w (st 28 4 14),o 5 (an 1600)])
(.ret [4,5]))
.skip))
(S (R [o 15 (ld 28 2),o 16 (cl 63 #[(t 15)] #[28]),o 6 (al 28),w (st 28 6 16)])
(S (R [o 17 (fa 28 6 3),o 18 (ld 25 17),o 19 (mv 1),z 20 (ia 25 18 19),o 7 (av 20)])
(S QG
(S QF
(S QE
(S (R [o 55 (mv 7),o 56 (nc 55),o 57 (fa 46 56 5),o 58 (ld 3 57),o 59 (bo .add (t 58) (n 1)),o 60 (nc 55),o 61 (fa 46 60 5),w (st 3 61 59)])
(S (R [o 62 (mv 1),o 63 (mv 9),o 64 (cl 128 #[(t 6),(t 62),(n 1),(t 63)] #[73,3,3,3])])
(S (R [o 65 (ld 28 6),w (st 28 4 65),o 5 (an 0)])
(.ret [4,5])))))))))))
def g117:IFn:=⟨66,[.cell 4 28,.tmp 5],[28,30],sC,[],false,none⟩
def zD:IR:=(S (R [z 3 (bx 75 0),o 6 (al 28),o 7 (an 0)])
(S (R [o 8 (fa 75 3 0),o 9 (ld 28 8),o 10 (fa 75 3 1),o 11 (ld 3 10),o 12 (mv 1),o 13 (mv 2),o 14 (cl 124 #[(t 9),(t 11),(t 12),(t 13)] #[28,3,3,3]),o 15 (xt 14 0),o 16 (xt 14 1),w (st 28 6 15),o 7 (av 16)])
(.ret [6,7])))
def g118:IFn:=⟨17,[.cell 6 28,.tmp 7],[28,30],zD,[],false,none⟩
def QD:IR:=D [o 20 (mv 7),o 21 (nc 20),o 22 (fa 46 21 3),o 23 (ld 42 22),o 24 (mv 7),o 25 (nc 24),o 26 (fa 46 25 5),o 27 (ld 3 26),o 28 (ia 42 23 27),o 29 (ld 52 28),o 8 (al 52),w (st 52 8 29)] [[],[0],[1],[2],[],[4],[5],[6],[3,7],[8],[],[10,9,0,1,2,3,4,5,6,7,8,9,10]]
def QC:IR:=D [o 55 (mv 7),o 56 (mv 7),o 57 (nc 56),o 58 (fa 46 57 6),o 59 (ld 24 58),o 60 (fa 52 8 1),o 61 (ld 3 60),o 62 (fa 52 8 2),o 63 (ld 3 62),o 64 (cl 172 #[(t 59),(t 61),(t 63)] #[24,3,3]),o 54 (mv 64),o 65 (xt 54 0),o 66 (xt 54 1),o 67 (nc 55),o 68 (fa 46 67 6),w (st 24 68 65)] [[],[],[1],[2],[3],[],[5],[],[7],[4,6,8],[9],[10],[10],[0,0,1,2,3,4,5,6,7,8,9,10,11],[13,0,1,2,3,4,5,6,7,8,9,10,11],[14,11,9,0,1,2,3,4,5,6,7,8,9,10,11]]
def QB:IR:=D [o 72 (mv 7),o 73 (mv 7),o 74 (nc 73),o 75 (fa 46 74 6),o 76 (ld 24 75),o 77 (fa 52 8 1),o 78 (ld 3 77),o 79 (fa 52 8 2),o 80 (ld 3 79),o 81 (cl 173 #[(t 76),(t 78),(t 80)] #[24,3,3]),o 71 (mv 81),o 82 (xt 71 0),o 83 (xt 71 1),o 84 (nc 72),o 85 (fa 46 84 6),w (st 24 85 82)] [[],[],[1],[2],[3],[],[5],[],[7],[4,6,8],[9],[10],[10],[0,0,1,2,3,4,5,6,7,8,9,10,11],[13,0,1,2,3,4,5,6,7,8,9,10,11],[14,11,9,0,1,2,3,4,5,6,7,8,9,10,11]]
def QA:IR:=D [o 39 (mv 7),o 40 (fa 52 8 1),o 41 (ld 3 40),o 42 (nc 39),o 43 (fa 46 42 6),o 44 (ia 24 43 41),o 45 (ld 3 44),o 46 (bo .eql (t 45) (n 0))] [[],[],[1],[0],[3],[4,2],[5],[6]]
def dG:IR:=(S (R [z 2 (bx 28 0),o 4 (al 28),o 5 (an 0)])
(S (S (R [o 9 (mv 1),o 10 (.buildSlice 59 3 #[(0,(.const (.int .i64 0))),(1,(.const (.int .i64 1))),(2,(.const (.int .i64 4)))]),o 11 (cl 127 #[(t 2),(t 9),(t 10)] #[73,3,59]),o 12 (.unOp .not 4 (.tmp 11))])
(.cond (t 12)
(S (R [o 13 (.build 28 #[]),w (st 28 4 13),o 5 (an 1700)])
(.ret [4,5]))
.skip))
(S (R [o 14 (ld 28 2),o 15 (cl 63 #[(t 14)] #[28]),o 6 (al 28),w (st 28 6 15)])
(S (R [o 16 (fa 28 6 3),o 17 (ld 25 16),o 18 (mv 1),z 19 (ia 25 17 18),o 7 (av 19)])
(S QD
(S (R [o 30 (mv 7),o 31 (nc 30),o 32 (fa 46 31 5),o 33 (ld 3 32),o 34 (bo .add (t 33) (n 1)),o 35 (nc 30),o 36 (fa 46 35 5),w (st 3 36 34)])
(S (S (R [o 37 (fa 52 8 0),o 38 (ld 3 37)])
(.block 0 (S (R [o 53 (bo .eql (t 38) (n 0)),o 52 (av 53)])
(.cond (t 52)
QC
(S (R [o 70 (bo .eql (t 38) (n 1)),o 69 (av 70)])
(.cond (t 69)
QB
(S QA
(.cond (t 46)
(R [o 47 (mv 7),o 48 (fa 52 8 2),o 49 (ld 3 48),o 50 (nc 47),o 51 (fa 46 50 5),w (st 3 51 49)])
.skip))))))))
(S (R [o 86 (ld 28 6),w (st 28 4 86),o 5 (an 0)])
(.ret [4,5])))))))))
def g119:IFn:=⟨87,[.cell 4 28,.tmp 5],[28,30],dG,[],false,none⟩
def dF:IR:=(S (R [o 6 (ab false)])
(S (R [o 7 (mv 0),o 8 (mv 1),o 9 (cl 37 #[(t 7),(t 8)] #[73,3]),o 10 (mv 9),oT 11 (mv 0) 10,oT 12 (nc 11) 10,oT 13 (fa 28 12 3) 10,oT 14 (ld 25 13) 10,oT 15 (mv 1) 10,oT 16 (ia 25 14 15) 10,oT 17 (fa 46 16 4) 10,oT 18 (ld 3 17) 10,oT 19 (mv 2) 10,oT 20 (bo .eql (t 18) (t 19)) 10,o 21 (.pick (.tmp 10) (.tmp 20) (.const (.bool false))),o 6 (av 21)])
(.ret [6])))
def g120:IFn:=⟨22,[.tmp 6],[4],dF,[],false,none⟩
def lE:IR:=(S (R [o 2 (bx 50 0),o 4 (al 50),o 5 (an 0)])
(S (.block 0 (S (R [o 7 (ld 50 2),o 8 (cl 144 #[(t 7)] #[50]),o 9 (.unOp .not 4 (.tmp 8)),o 10 (mv 9),oF 11 (mv 1) 10,oF 12 (cl 174 #[(t 11)] #[3]) 10,oF 13 (.unOp .not 4 (.tmp 12)) 10,o 14 (.pick (.tmp 10) (.const (.bool true)) (.tmp 13)),o 6 (av 14)])
(.cond (t 6)
(S (R [o 15 (.build 50 #[]),w (st 50 4 15),o 5 (an 300)])
(.ret [4,5]))
(S (R [o 17 (fa 50 2 2),o 18 (ld 3 17),o 19 (bo .neq (t 18) (n 0)),o 16 (av 19)])
(.cond (t 16)
(S (R [o 20 (.build 50 #[]),w (st 50 4 20),o 5 (an 301)])
(.ret [4,5]))
.skip)))))
(S (R [o 21 (mv 1),o 22 (bo .add (t 21) (n 1)),o 23 (fa 50 2 2),w (st 3 23 22)])
(S (R [o 24 (ld 50 2),w (st 50 4 24),o 5 (an 0)])
(.ret [4,5])))))
def g121:IFn:=⟨25,[.cell 4 50,.tmp 5],[50,30],lE,[],false,none⟩
def lD:IR:=(S (R [z 3 (bx 28 0),o 6 (al 28),o 7 (an 0)])
(S (S (R [o 10 (mv 1),o 11 (cl 37 #[(t 3),(t 10)] #[73,3]),o 12 (.unOp .not 4 (.tmp 11)),o 13 (mv 12),oF 14 (mv 2) 13,oF 15 (bo .neq (t 14) (n 3)) 13,oF 16 (mv 15) 13,oT 17 (mv 2) 16,oT 18 (bo .neq (t 17) (n 5)) 16,oF 19 (.pick (.tmp 16) (.tmp 18) (.const (.bool false))) 13,o 20 (.pick (.tmp 13) (.const (.bool true)) (.tmp 19))])
(.cond (t 20)
(S (R [o 21 (.build 28 #[]),w (st 28 6 21),o 7 (an 1300)])
(.ret [6,7]))
.skip))
(S (R [o 22 (ld 28 3),o 23 (cl 63 #[(t 22)] #[28]),o 8 (al 28),w (st 28 8 23)])
(S (R [o 24 (mv 1),o 25 (cl 175 #[(t 8),(t 24)] #[73,3]),o 9 (av 25)])
(S (R [o 26 (mv 9),o 27 (mv 9),o 28 (mv 9),o 29 (.build 24 #[]),o 30 (nc 26),o 31 (fa 46 30 5),w (.store 3 (.tmp 31) (.const (.int .i64 0))),o 32 (nc 27),o 33 (fa 46 32 6),w (st 24 33 29),o 34 (nc 28),o 35 (fa 46 34 4),w (.store 3 (.tmp 35) (.const (.int .i64 0)))])
(S (R [o 36 (mv 9),o 37 (mv 9),o 38 (nc 37),o 39 (fa 46 38 11),o 40 (ld 3 39),o 41 (bo .add (t 40) (n 1)),o 42 (.call { callee:=(.builtin .min),args:=#[(.tmp 41),(.const (.int .i64 65535))],argTypes:=#[3,3] }),o 43 (nc 36),o 44 (fa 46 43 11),w (st 3 44 42)])
(S (R [o 45 (mv 1),o 46 (mv 2),o 47 (mv 9),o 48 (nc 47),o 49 (fa 46 48 11),o 50 (ld 3 49),o 51 (cl 128 #[(t 8),(t 45),(t 46),(t 50)] #[73,3,3,3])])
(S (R [o 52 (ld 28 8),w (st 28 6 52),o 7 (an 0)])
(.ret [6,7])))))))))
def g122:IFn:=⟨53,[.cell 6 28,.tmp 7],[28,30],lD,[],false,none⟩
def Qz:IR:=D [o 29 (ld 24 3),o 30 (mv 1),o 31 (ia 24 3 30),o 32 (ld 3 31),w (st 24 6 29),o 7 (av 32),o 8 (an 0)] [[],[],[1],[2],[0,0],[3,4,0,1,2,3,4],[5,0,1,2,3,4,5]]
def lC:IR:=(S (R [o 3 (bx 24 0),o 6 (al 24),o 7 (an 0),o 8 (an 0)])
(S (S (R [o 9 (mv 2),o 10 (cl 104 #[(t 3),(t 9)] #[133,3]),o 11 (.unOp .not 4 (.tmp 10)),o 12 (mv 11),oF 13 (mv 1) 12,oF 14 (cl 107 #[(t 13)] #[3]) 12,oF 15 (.unOp .not 4 (.tmp 14)) 12,o 16 (.pick (.tmp 12) (.const (.bool true)) (.tmp 15))])
(.cond (t 16)
(S (R [o 17 (.build 24 #[]),w (st 24 6 17),o 7 (an 0),o 8 (an 500)])
(.ret [6,7,8]))
.skip))
(S (S (R [o 18 (mv 1),o 19 (ia 24 3 18),o 20 (ld 3 19),o 21 (mv 2),o 22 (bo .geq (t 20) (t 21))])
(.cond (t 22)
(S (R [o 23 (.build 24 #[]),w (st 24 6 23),o 7 (an 0),o 8 (an 501)])
(.ret [6,7,8]))
.skip))
(S (R [o 24 (mv 1),o 25 (ia 24 3 24),o 26 (ld 3 25),o 27 (bo .add (t 26) (n 1)),o 28 (ia 24 3 24),w (st 3 28 27)])
(S Qz
(.ret [6,7,8]))))))
def g123:IFn:=⟨33,[.cell 6 24,.tmp 7,.tmp 8],[24,3,30],lC,[],false,none⟩
def lB:IR:=(S (R [z 4 (bx 28 0),o 8 (al 28),o 9 (an 0)])
(S (S (R [o 12 (mv 1),o 13 (cl 37 #[(t 4),(t 12)] #[73,3]),o 14 (.unOp .not 4 (.tmp 13)),o 15 (mv 14),oF 16 (mv 2) 15,oF 17 (bo .lss (t 16) (n 0)) 15,o 18 (.pick (.tmp 15) (.const (.bool true)) (.tmp 17)),o 19 (mv 18),oF 20 (mv 2) 19,oF 21 (bo .gtr (t 20) (n 5)) 19,o 22 (.pick (.tmp 19) (.const (.bool true)) (.tmp 21)),o 23 (mv 22),oF 24 (mv 3) 23,oF 25 (cl 160 #[(t 24)] #[3]) 23,oF 26 (.unOp .not 4 (.tmp 25)) 23,o 27 (.pick (.tmp 23) (.const (.bool true)) (.tmp 26))])
(.cond (t 27)
(S (R [o 28 (.build 28 #[]),w (st 28 8 28),o 9 (an 1300)])
(.ret [8,9]))
.skip))
(S (R [o 29 (ld 28 4),o 30 (cl 63 #[(t 29)] #[28]),o 10 (al 28),w (st 28 10 30)])
(S (R [o 31 (mv 1),o 32 (cl 175 #[(t 10),(t 31)] #[73,3]),o 11 (av 32)])
(S (R [o 33 (mv 11),o 34 (mv 11),o 35 (mv 11),o 36 (mv 2),o 37 (mv 3),o 38 (nc 33),o 39 (fa 46 38 4),w (.store 3 (.tmp 39) (.const (.int .i64 6))),o 40 (nc 34),o 41 (fa 46 40 12),w (st 3 41 36),o 42 (nc 35),o 43 (fa 46 42 13),w (st 3 43 37)])
(S (R [o 44 (mv 1),o 45 (mv 2),o 46 (cl 128 #[(t 10),(t 44),(n 6),(t 45)] #[73,3,3,3])])
(S (R [o 47 (ld 28 10),w (st 28 8 47),o 9 (an 0)])
(.ret [8,9]))))))))
def g124:IFn:=⟨48,[.cell 8 28,.tmp 9],[28,30],lB,[],false,none⟩
def Qy:IR:=D [o 31 (fa 50 11 1),o 32 (ld 3 31),o 33 (mv 1),o 34 (mv 10),o 35 (ia 43 33 34),o 36 (fa 125 35 2),o 37 (ld 3 36),o 38 (bo .neq (t 32) (t 37)),o 39 (mv 38),oF 40 (fa 50 11 2) 39,oF 41 (ld 3 40) 39,oF 42 (bo .neq (t 41) (n 0)) 39,oF 43 (mv 42) 39,oT 44 (fa 50 11 2) 43,oT 45 (ld 3 44) 43,oT 46 (mv 2) 43,oT 47 (bo .add (t 46) (n 1)) 43,oT 48 (bo .neq (t 45) (t 47)) 43,oF 49 (.pick (.tmp 43) (.tmp 48) (.const (.bool false))) 39,o 50 (.pick (.tmp 39) (.const (.bool true)) (.tmp 49))] [[],[0],[],[],[2,3],[4],[5],[1,6],[7],[8],[9,8],[10,8],[11,8,8],[12],[13,12],[12],[15,12],[14,16,12],[12,17,8],[8,18]]
def IE:IR:=(S (R [o 27 (bo .lss (t 26) (t 25))])
(S (.cond (t 27)
.skip
(.exit 0 []))
(S (.block 1 (S (R [o 28 (mv 26),o 29 (ia 22 24 26),o 30 (ld 50 29),o 11 (al 50),o 10 (av 28),w (st 50 11 30)])
(S Qy
(.cond (t 50)
(S (R [o 6 (ab false),o 7 (an 0)])
(.ret [6,7]))
.skip))))
(R [o 51 (bo .add (t 26) (n 1)),o 26 (mv 51)]))))
def lA:IR:=(S (R [z 3 (bx 23 0),o 6 (ab false),o 7 (an 0)])
(S (R [o 13 (mv 1),o 14 (cl 176 #[(t 3),(t 13)] #[138,43]),o 12 (mv 14),o 15 (xt 12 0),o 16 (xt 12 1),o 8 (av 15),o 9 (av 16)])
(S (S (R [o 17 (mv 9),o 18 (.unOp .not 4 (.tmp 17)),o 19 (mv 18),oF 20 (mv 2) 19,oF 21 (cl 174 #[(t 20)] #[3]) 19,oF 22 (.unOp .not 4 (.tmp 21)) 19,o 23 (.pick (.tmp 19) (.const (.bool true)) (.tmp 22))])
(.cond (t 23)
(S (R [o 6 (ab false),o 7 (an 900)])
(.ret [6,7]))
.skip))
(S (S (R [o 24 (mv 8),o 25 (len 24 22),o 26 (.move (.const (.int .i64 0)))])
(.block 0 (.loop [1,2,24,25,26] IE)))
(S (R [o 6 (ab true),o 7 (an 0)])
(.ret [6,7]))))))
def g125:IFn:=⟨52,[.tmp 6,.tmp 7],[4,30],lA,[],false,none⟩
def sB:IR:=(S (R [z 3 (bx 50 0),o 6 (al 50),o 7 (an 0)])
(S (R [o 9 (mv 1),o 10 (mv 2),o 11 (.build 50 #[(0,(.tmp 9)),(1,(.tmp 10))]),o 8 (al 50),w (st 50 8 11)])
(S (S (R [o 12 (ld 50 3),o 13 (cl 144 #[(t 12)] #[50]),o 14 (.unOp .not 4 (.tmp 13)),o 15 (mv 14),oF 16 (ld 50 8) 15,oF 17 (cl 144 #[(t 16)] #[50]) 15,oF 18 (.unOp .not 4 (.tmp 17)) 15,o 19 (.pick (.tmp 15) (.const (.bool true)) (.tmp 18))])
(.cond (t 19)
(S (R [o 20 (.build 50 #[]),w (st 50 6 20),o 7 (an 300)])
(.ret [6,7]))
.skip))
(S (R [o 21 (ld 50 8),w (st 50 6 21),o 7 (an 0)])
(.ret [6,7])))))
def g126:IFn:=⟨22,[.cell 6 50,.tmp 7],[50,30],sB,[],false,none⟩
def Qx:IR:=D [o 18 (mv 7),o 19 (nc 18),o 20 (fa 46 19 4),o 21 (ld 3 20),o 22 (bo .eql (t 21) (n 0)),o 23 (mv 22),oT 24 (mv 7) 23,oT 25 (nc 24) 23,oT 26 (fa 46 25 5) 23,oT 27 (ld 3 26) 23,oT 28 (mv 7) 23,oT 29 (nc 28) 23,oT 30 (fa 46 29 3) 23,oT 31 (ld 42 30) 23,oT 32 (len 31 42) 23,oT 33 (bo .lss (t 27) (t 32)) 23,o 34 (.pick (.tmp 23) (.tmp 33) (.const (.bool false))),o 35 (mv 34),oT 36 (mv 2) 35,oT 37 (mv 7) 35,oT 38 (nc 37) 35,oT 39 (fa 46 38 3) 35,oT 40 (ld 42 39) 35,oT 41 (mv 7) 35,oT 42 (nc 41) 35,oT 43 (fa 46 42 5) 35,oT 44 (ld 3 43) 35,oT 45 (ia 42 40 44) 35,oT 46 (fa 52 45 0) 35,oT 47 (ld 3 46) 35,oT 48 (cl 177 #[(t 36),(t 47)] #[59,3]) 35,o 49 (.pick (.tmp 35) (.tmp 48) (.const (.bool false))),o 6 (av 49)] [[],[0],[1],[2],[3],[4],[5],[6,5],[7,5],[8,5],[5],[10,5],[11,5],[12,5],[13,5],[9,14,5],[5,15],[16,5],[17],[17],[19,17],[20,17],[21,17],[17],[23,17],[24,17],[25,17],[22,26,17],[27,17],[28,17],[18,29,17,17],[17,30],[31,30,0,1,2,3,4,5,6,7,8,9,10,11,12,13,14,15,16,17,18,19,20,21,22,23,24,25,26,27,28,29,30,31]]
def QO:IR:=(S (R [o 6 (ab false)])
(S (S (R [o 8 (mv 0),o 9 (mv 1),o 10 (cl 37 #[(t 8),(t 9)] #[73,3]),o 11 (.unOp .not 4 (.tmp 10))])
(.cond (t 11)
(S (R [o 6 (ab false)])
(.ret [6]))
.skip))
(S (R [o 12 (mv 0),o 13 (nc 12),o 14 (fa 28 13 3),o 15 (ld 25 14),o 16 (mv 1),o 17 (ia 25 15 16),o 7 (av 17)])
(S Qx
(.ret [6])))))
def g127:IFn:=⟨50,[.tmp 6],[4],QO,[],false,none⟩
def Qw:IR:=D [o 21 (mv 0),o 22 (mv 0),o 23 (nc 22),o 24 (fa 28 23 4),o 25 (ld 26 24),o 26 (mv 8),o 27 (nc 26),o 28 (fa 46 27 0),o 29 (ld 3 28),o 30 (mv 8),o 31 (nc 30),o 32 (fa 46 31 1),o 33 (ld 3 32),o 34 (mv 2),o 35 (mv 3),o 36 (.build 90 #[(0,(.tmp 29)),(1,(.tmp 33)),(2,(.tmp 34)),(3,(.tmp 35))]),o 37 (.buildSlice 26 1 #[(0,(.tmp 36))]),o 38 (.call { callee:=(.builtin .append),args:=#[(.tmp 25),(.tmp 37)],argTypes:=#[26,26] }),o 39 (nc 21),o 40 (fa 28 39 4),w (st 26 40 38)] [[],[],[1],[2],[3],[],[5],[6],[7],[],[9],[10],[11],[],[],[8,12,13,14],[15],[4,16],[0,0,1,2,3,4,5,6,7,8,9,10,11,12,13,14,15,16,17],[18,0,1,2,3,4,5,6,7,8,9,10,11,12,13,14,15,16,17],[19,17,17,0,1,2,3,4,5,6,7,8,9,10,11,12,13,14,15,16,17]]
def QN:IR:=(S (R [o 9 (mv 0),o 10 (nc 9),o 11 (fa 28 10 4),o 12 (ld 26 11),o 13 (len 12 26),o 14 (bo .lss (t 13) (n 512))])
(.cond (t 14)
(S (R [o 15 (mv 0),o 16 (nc 15),o 17 (fa 28 16 3),o 18 (ld 25 17),o 19 (mv 1),o 20 (ia 25 18 19),o 8 (av 20)])
Qw)
.skip))
def g128:IFn:=⟨41,[],[],QN,[],true,none⟩
def Qv:IR:=D [o 24 (fa 50 9 1),o 25 (ld 3 24),o 26 (mv 1),o 27 (mv 8),o 28 (ia 43 26 27),o 29 (fa 125 28 2),o 30 (ld 3 29),o 31 (bo .neq (t 25) (t 30))] [[],[0],[],[],[2,3],[4],[5],[1,6]]
def Lc:IR:=(S (R [o 20 (bo .lss (t 19) (t 18))])
(S (.cond (t 20)
.skip
(.exit 0 []))
(S (.block 1 (S (R [o 21 (mv 19),o 22 (ia 22 17 19),o 23 (ld 50 22),o 9 (al 50),o 8 (av 21),w (st 50 9 23)])
(S Qv
(.cond (t 31)
(S (R [o 4 (ab true),o 5 (an 0)])
(.ret [4,5]))
.skip))))
(R [o 32 (bo .add (t 19) (n 1)),o 19 (mv 32)]))))
def sA:IR:=(S (R [z 2 (bx 23 0),o 4 (ab false),o 5 (an 0)])
(S (R [o 11 (mv 1),o 12 (cl 176 #[(t 2),(t 11)] #[138,43]),o 10 (mv 12),o 13 (xt 10 0),o 14 (xt 10 1),o 6 (av 13),o 7 (av 14)])
(S (S (R [o 15 (mv 7),o 16 (.unOp .not 4 (.tmp 15))])
(.cond (t 16)
(S (R [o 4 (ab false),o 5 (an 900)])
(.ret [4,5]))
.skip))
(S (S (R [o 17 (mv 6),o 18 (len 17 22),o 19 (.move (.const (.int .i64 0)))])
(.block 0 (.loop [1,17,18,19] Lc)))
(S (R [o 4 (ab false),o 5 (an 0)])
(.ret [4,5]))))))
def g129:IFn:=⟨33,[.tmp 4,.tmp 5],[4,30],sA,[],false,none⟩
def yY:IR:=(S (R [o 4 (ab false)])
(S (R [o 5 (mv 0),o 6 (mv 1),o 7 (bo .or (t 5) (t 6)),o 8 (mv 1),o 9 (bo .eql (t 7) (t 8)),o 4 (av 9)])
(.ret [4])))
def g130:IFn:=⟨10,[.tmp 4],[4],yY,[],false,none⟩
def Nr:IR:=(S (S (R [o 9 (mv 8),o 10 (mv 0),o 11 (len 10 44),o 12 (bo .lss (t 9) (t 11)),o 13 (mv 12),oT 14 (mv 0) 13,oT 15 (cl 101 #[(t 14)] #[44]) 13,o 16 (.pick (.tmp 13) (.tmp 15) (.const (.bool false)))])
(.cond (t 16)
.skip
(.exit 0 [])))
(S (.block 1 (S (R [o 19 (mv 0),o 20 (mv 8),o 21 (ia 44 19 20),o 22 (fa 106 21 0),o 23 (ld 3 22),o 24 (mv 1),o 25 (bo .eql (t 23) (t 24)),o 26 (mv 25),oT 27 (mv 0) 26,oT 28 (mv 8) 26,oT 29 (ia 44 27 28) 26,oT 30 (fa 106 29 1) 26,oT 31 (ld 3 30) 26,oT 32 (mv 2) 26,oT 33 (bo .eql (t 31) (t 32)) 26,o 34 (.pick (.tmp 26) (.tmp 33) (.const (.bool false)))])
(.cond (t 34)
(S (R [o 35 (mv 0),o 36 (mv 8),o 37 (ia 44 35 36),o 38 (fa 106 37 2),o 39 (ld 3 38),o 6 (av 39),o 7 (ab true)])
(.ret [6,7]))
.skip)))
(R [o 17 (mv 8),o 18 (bo .add (t 17) (n 1)),o 8 (av 18)])))
def rZ:IR:=(S (R [o 6 (an 0),o 7 (ab false)])
(S (S (R [o 8 (an 0)])
(.block 0 (.loop [0,1,2,8] Nr)))
(S (R [o 6 (an 0),o 7 (ab false)])
(.ret [6,7]))))
def g131:IFn:=⟨40,[.tmp 6,.tmp 7],[3,4],rZ,[],false,none⟩
def Qu:IR:=D [o 26 (mv 0),o 27 (mv 7),o 28 (ia 43 26 27),o 29 (fa 125 28 0),o 30 (ld 3 29),o 31 (fa 125 3 0),o 32 (ld 3 31),o 33 (bo .eql (t 30) (t 32)),o 34 (mv 33),oT 35 (mv 0) 34,oT 36 (mv 7) 34,oT 37 (ia 43 35 36) 34,oT 38 (fa 125 37 1) 34,oT 39 (ld 3 38) 34,oT 40 (fa 125 3 1) 34,oT 41 (ld 3 40) 34,oT 42 (bo .eql (t 39) (t 41)) 34,o 43 (.pick (.tmp 34) (.tmp 42) (.const (.bool false)))] [[],[],[0,1],[2],[3],[],[5],[4,6],[7],[8],[8],[9,10,8],[11,8],[12,8],[8],[14,8],[13,15,8],[8,16]]
def Lb:IR:=(S (S (R [o 20 (mv 7),o 21 (mv 0),o 22 (len 21 43),o 23 (bo .lss (t 20) (t 22))])
(.cond (t 23)
.skip
(.exit 0 [3,6])))
(S (.block 1 (S Qu
(.cond (t 43)
(S (R [o 44 (mv 6),o 4 (av 44),o 5 (an 0)])
(.ret [4,5]))
.skip)))
(R [o 24 (mv 7),o 25 (bo .add (t 24) (n 1)),o 7 (av 25)])))
def kZ:IR:=(S (R [z 3 (bx 125 1),o 4 (.assign (.const (.slice none 0 0))),o 5 (an 0)])
(S (S (R [o 8 (mv 0),o 9 (cl 100 #[(t 8)] #[43]),o 10 (.unOp .not 4 (.tmp 9)),o 11 (mv 10),oF 12 (ld 125 3) 11,oF 13 (.buildSlice 43 1 #[(0,(.tmp 12))]) 11,oF 14 (cl 100 #[(t 13)] #[43]) 11,oF 15 (.unOp .not 4 (.tmp 14)) 11,o 16 (.pick (.tmp 11) (.const (.bool true)) (.tmp 15))])
(.cond (t 16)
(S (R [o 4 (.assign (.const (.slice none 0 0))),o 5 (an 900)])
(.ret [4,5]))
.skip))
(S (R [o 17 (.buildSlice 43 0 #[]),o 18 (mv 0),o 19 (.call { callee:=(.builtin .append),args:=#[(.tmp 17),(.tmp 18)],argTypes:=#[43,43] }),o 6 (av 19)])
(S (S (R [o 7 (an 0)])
(.block 0 (.loop [0,3,6,7] Lb)))
(S (R [o 45 (mv 6),o 46 (ld 125 3),o 47 (.buildSlice 43 1 #[(0,(.tmp 46))]),o 48 (.call { callee:=(.builtin .append),args:=#[(.tmp 45),(.tmp 47)],argTypes:=#[43,43] }),o 6 (av 48)])
(S (S (R [o 49 (mv 6),o 50 (len 49 43),o 51 (bo .gtr (t 50) (n 16))])
(.cond (t 51)
(S (R [o 4 (.assign (.const (.slice none 0 0))),o 5 (an 900)])
(.ret [4,5]))
.skip))
(S (R [o 52 (mv 6),o 4 (av 52),o 5 (an 0)])
(.ret [4,5]))))))))
def g132:IFn:=⟨53,[.tmp 4,.tmp 5],[43,3],kZ,[],false,none⟩
def Qt:IR:=D [o 26 (mv 0),o 27 (mv 8),o 28 (ia 44 26 27),o 29 (fa 106 28 0),o 30 (ld 3 29),o 31 (mv 0),o 32 (mv 8),o 33 (ia 44 31 32),o 34 (fa 106 33 1),o 35 (ld 3 34),o 36 (cl 142 #[(t 30),(t 35)] #[3,3]),o 37 (fa 106 3 0),o 38 (ld 3 37),o 39 (fa 106 3 1),o 40 (ld 3 39),o 41 (cl 142 #[(t 38),(t 40)] #[3,3]),o 9 (av 36),o 10 (av 41)] [[],[],[0,1],[2],[3],[],[],[5,6],[7],[8],[4,9],[],[11],[],[13],[12,14,10],[10,15,0,1,2,3,4,5,6,7,8,9,10],[15,16,0,1,2,3,4,5,6,7,8,9,10,11,12,13,14,15,16]]
def FF:IR:=(S (S (R [o 20 (mv 8),o 21 (mv 0),o 22 (len 21 44),o 23 (bo .lss (t 20) (t 22))])
(.cond (t 23)
.skip
(.exit 0 [3,6,7])))
(S (.block 1 (S Qt
(S (S (R [o 42 (mv 7),o 43 (.unOp .not 4 (.tmp 42)),o 44 (mv 43),oT 45 (mv 9) 44,oT 46 (mv 10) 44,oT 47 (bo .geq (t 45) (t 46)) 44,o 48 (.pick (.tmp 44) (.tmp 47) (.const (.bool false)))])
(.cond (t 48)
(S (R [o 49 (mv 6),o 50 (ld 106 3),o 51 (.buildSlice 44 1 #[(0,(.tmp 50))]),o 52 (.call { callee:=(.builtin .append),args:=#[(.tmp 49),(.tmp 51)],argTypes:=#[44,44] }),o 6 (av 52)])
(R [o 7 (ab true)]))
.skip))
(S (R [o 53 (mv 9),o 54 (mv 10),o 55 (bo .neq (t 53) (t 54))])
(.cond (t 55)
(R [o 56 (mv 6),o 57 (mv 0),o 58 (mv 8),o 59 (ia 44 57 58),o 60 (ld 106 59),o 61 (.buildSlice 44 1 #[(0,(.tmp 60))]),o 62 (.call { callee:=(.builtin .append),args:=#[(.tmp 56),(.tmp 61)],argTypes:=#[44,44] }),o 6 (av 62)])
.skip)))))
(R [o 24 (mv 8),o 25 (bo .add (t 24) (n 1)),o 8 (av 25)])))
def dE:IR:=(S (R [z 3 (bx 106 1),o 4 (.assign (.const (.slice none 0 0))),o 5 (an 0)])
(S (S (R [o 11 (mv 0),o 12 (cl 101 #[(t 11)] #[44]),o 13 (.unOp .not 4 (.tmp 12)),o 14 (mv 13),oF 15 (ld 106 3) 14,oF 16 (.buildSlice 44 1 #[(0,(.tmp 15))]) 14,oF 17 (cl 101 #[(t 16)] #[44]) 14,oF 18 (.unOp .not 4 (.tmp 17)) 14,o 19 (.pick (.tmp 14) (.const (.bool true)) (.tmp 18))])
(.cond (t 19)
(S (R [o 4 (.assign (.const (.slice none 0 0))),o 5 (an 1000)])
(.ret [4,5]))
.skip))
(S (R [o 6 (.assign (.const (.slice none 0 0)))])
(S (R [o 7 (ab false)])
(S (S (R [o 8 (an 0)])
(.block 0 (.loop [0,3,6,7,8] FF)))
(S (S (R [o 63 (mv 7),o 64 (.unOp .not 4 (.tmp 63))])
(.cond (t 64)
(R [o 65 (mv 6),o 66 (ld 106 3),o 67 (.buildSlice 44 1 #[(0,(.tmp 66))]),o 68 (.call { callee:=(.builtin .append),args:=#[(.tmp 65),(.tmp 67)],argTypes:=#[44,44] }),o 6 (av 68)])
.skip))
(S (R [o 69 (mv 6),o 4 (av 69),o 5 (an 0)])
(.ret [4,5]))))))))
def g133:IFn:=⟨70,[.tmp 4,.tmp 5],[44,3],dE,[],false,none⟩
def rY:IR:=(S (R [o 3 (bx 24 0),o 6 (al 24),o 7 (an 0)])
(S (S (R [o 8 (ld 24 3),o 9 (cl 99 #[(t 8)] #[24]),o 10 (.unOp .not 4 (.tmp 9)),o 11 (mv 10),oF 12 (mv 1) 11,oF 13 (cl 178 #[(t 12)] #[3]) 11,oF 14 (.unOp .not 4 (.tmp 13)) 11,o 15 (.pick (.tmp 11) (.const (.bool true)) (.tmp 14)),o 16 (mv 15),oF 17 (mv 2) 16,oF 18 (cl 102 #[(t 17)] #[3]) 16,oF 19 (.unOp .not 4 (.tmp 18)) 16,o 20 (.pick (.tmp 16) (.const (.bool true)) (.tmp 19))])
(.cond (t 20)
(S (R [o 21 (.build 24 #[]),w (st 24 6 21),o 7 (an 600)])
(.ret [6,7]))
.skip))
(S (R [o 22 (mv 1),o 23 (mv 2),o 24 (ia 24 3 22),w (st 3 24 23)])
(S (R [o 25 (ld 24 3),w (st 24 6 25),o 7 (an 0)])
(.ret [6,7])))))
def g134:IFn:=⟨26,[.cell 6 24,.tmp 7],[24,3],rY,[],false,none⟩
def Qs:IR:=D [o 22 (mv 1),o 23 (mv 1),o 24 (ia 24 3 23),o 25 (ld 3 24),o 26 (mv 2),o 27 (ia 24 3 26),o 28 (ld 3 27),o 29 (bo .add (t 25) (t 28)),o 30 (bo .rem (t 29) (n 256)),o 31 (ia 24 3 22),w (st 3 31 30)] [[],[],[1],[2],[],[4],[5],[3,6],[7],[0,0,1,2,3,4,5,6,7,8],[9,8,0,1,2,3,4,5,6,7,8]]
def rX:IR:=(S (R [o 3 (bx 24 0),o 6 (al 24),o 7 (an 0)])
(S (S (R [o 8 (ld 24 3),o 9 (cl 99 #[(t 8)] #[24]),o 10 (.unOp .not 4 (.tmp 9)),o 11 (mv 10),oF 12 (mv 1) 11,oF 13 (cl 178 #[(t 12)] #[3]) 11,oF 14 (.unOp .not 4 (.tmp 13)) 11,o 15 (.pick (.tmp 11) (.const (.bool true)) (.tmp 14)),o 16 (mv 15),oF 17 (mv 2) 16,oF 18 (cl 178 #[(t 17)] #[3]) 16,oF 19 (.unOp .not 4 (.tmp 18)) 16,o 20 (.pick (.tmp 16) (.const (.bool true)) (.tmp 19))])
(.cond (t 20)
(S (R [o 21 (.build 24 #[]),w (st 24 6 21),o 7 (an 600)])
(.ret [6,7]))
.skip))
(S Qs
(S (R [o 32 (ld 24 3),w (st 24 6 32),o 7 (an 0)])
(.ret [6,7])))))
def g135:IFn:=⟨33,[.cell 6 24,.tmp 7],[24,3],rX,[],false,none⟩
def CF:IR:=(S (S (R [o 21 (mv 8),o 22 (mv 7),o 23 (fa 28 5 0),o 24 (ia 23 23 22),o 25 (ld 22 24),o 26 (len 25 22),o 27 (bo .lss (t 21) (t 26))])
(.cond (t 27)
.skip
(.exit 2 [1,4,5,6,7])))
(S (.block 3 (S (R [o 30 (mv 7),o 31 (fa 28 5 0),o 32 (ia 23 31 30),o 33 (ld 22 32),o 34 (mv 8),o 35 (ia 22 33 34),o 36 (fa 50 35 2),o 37 (ld 3 36),o 38 (mv 6),o 39 (bo .add (t 38) (n 1)),o 40 (bo .eql (t 37) (t 39))])
(.cond (t 40)
(R [o 41 (mv 7),o 42 (fa 28 5 0),o 43 (ia 23 42 41),o 44 (ld 22 43),o 45 (mv 8),o 46 (ia 22 44 45),o 47 (fa 50 46 2),w (.store 3 (.tmp 47) (.const (.int .i64 0)))])
.skip)))
(R [o 28 (mv 8),o 29 (bo .add (t 28) (n 1)),o 8 (av 29)])))
def dD:IR:=(S (S (R [o 17 (mv 7),o 18 (bo .lss (t 17) (n 4))])
(.cond (t 18)
.skip
(.exit 0 [1,4,5])))
(S (.block 1 (S (R [o 8 (an 0)])
(.block 2 (.loop [1,4,5,6,7,8] CF))))
(R [o 19 (mv 7),o 20 (bo .add (t 19) (n 1)),o 7 (av 20)])))
def yX:IR:=(S (R [z 2 (bx 28 0),o 4 (al 28)])
(S (R [o 9 (ld 28 2),o 10 (cl 40 #[(t 9)] #[28]),o 5 (al 28),w (st 28 5 10)])
(S (R [o 11 (fa 28 2 3),o 12 (ld 25 11),o 13 (mv 1),o 14 (ia 25 12 13),o 15 (fa 46 14 0),o 16 (ld 3 15),o 6 (av 16)])
(S (S (R [o 7 (an 0)])
(.block 0 (.loop [1,4,5,6,7] dD)))
(S (R [o 48 (fa 28 5 3),o 49 (ld 25 48),o 50 (mv 1),o 51 (ia 25 49 50),o 52 (fa 46 51 7),w (.store 43 (.tmp 52) (.const (.slice none 0 0)))])
(S (R [o 53 (fa 28 5 3),o 54 (ld 25 53),o 55 (mv 1),o 56 (ia 25 54 55),o 57 (fa 46 56 8),w (.store 44 (.tmp 57) (.const (.slice none 0 0)))])
(S (R [o 58 (fa 28 5 3),o 59 (ld 25 58),o 60 (mv 1),o 61 (ia 25 59 60),o 62 (fa 46 61 9),w (.store 3 (.tmp 62) (.const (.int .i64 0)))])
(S (R [o 63 (fa 28 5 3),o 64 (ld 25 63),o 65 (mv 1),o 66 (ia 25 64 65),o 67 (fa 46 66 10),w (.store 3 (.tmp 67) (.const (.int .i64 0)))])
(S (R [o 68 (ld 28 5),w (st 28 4 68)])
(.ret [4]))))))))))
def g136:IFn:=⟨69,[.cell 4 28],[28],yX,[],false,none⟩
def yW:IR:=(S (R [o 2 (ab false)])
(S (R [o 3 (mv 0),o 4 (cl 96 #[(t 3),(n 0),(n 254)] #[3,3,3]),o 2 (av 4)])
(.ret [2])))
def g137:IFn:=⟨5,[.tmp 2],[4],yW,[],false,none⟩
def Qr:IR:=D [o 12 (ld 23 2),o 13 (mv 1),o 14 (mv 5),o 15 (ia 43 13 14),o 16 (fa 125 15 0),o 17 (ld 3 16),o 18 (mv 1),o 19 (mv 5),o 20 (ia 43 18 19),o 21 (fa 125 20 1),o 22 (ld 3 21),o 23 (cl 140 #[(t 12),(t 17),(t 22)] #[23,3,3]),o 24 (.unOp .not 4 (.tmp 23))] [[],[],[],[1,2],[3],[4],[],[],[6,7],[8],[9],[0,5,10],[11]]
def La:IR:=(S (S (R [o 6 (mv 5),o 7 (mv 1),o 8 (len 7 43),o 9 (bo .lss (t 6) (t 8))])
(.cond (t 9)
.skip
(.exit 0 [])))
(S (.block 1 (S Qr
(.cond (t 24)
(S (R [o 4 (ab false)])
(.ret [4]))
.skip)))
(R [o 10 (mv 5),o 11 (bo .add (t 10) (n 1)),o 5 (av 11)])))
def yV:IR:=(S (R [z 2 (bx 23 0),o 4 (ab false)])
(S (S (R [o 5 (an 0)])
(.block 0 (.loop [1,2,5] La)))
(S (R [o 4 (ab true)])
(.ret [4]))))
def g138:IFn:=⟨25,[.tmp 4],[4],yV,[],false,none⟩
def HQ:IR:=(S (S (R [o 4 (mv 3),o 5 (mv 0),o 6 (len 5 42),o 7 (bo .lss (t 4) (t 6))])
(.cond (t 7)
.skip
(.exit 0 [0])))
(S (.block 1 (S (R [o 10 (mv 0),o 11 (mv 3),o 12 (ia 42 10 11),o 13 (ld 52 12),o 14 (cl 179 #[(t 13)] #[52]),o 15 (.unOp .not 4 (.tmp 14)),o 16 (mv 15),oF 17 (mv 0) 16,oF 18 (mv 3) 16,oF 19 (ia 42 17 18) 16,oF 20 (fa 52 19 0) 16,oF 21 (ld 3 20) 16,oF 22 (bo .eql (t 21) (n 4)) 16,oF 23 (mv 22) 16,oT 24 (mv 0) 23,oT 25 (mv 3) 23,oT 26 (ia 42 24 25) 23,oT 27 (fa 52 26 2) 23,oT 28 (ld 3 27) 23,oT 29 (mv 3) 23,oT 30 (bo .leq (t 28) (t 29)) 23,oT 31 (mv 30) 23,oF 32 (mv 0) 31,oF 33 (mv 3) 31,oF 34 (ia 42 32 33) 31,oF 35 (fa 52 34 2) 31,oF 36 (ld 3 35) 31,oF 37 (mv 0) 31,oF 38 (len 37 42) 31,oF 39 (bo .gtr (t 36) (t 38)) 31,oT 40 (.pick (.tmp 31) (.const (.bool true)) (.tmp 39)) 23,oF 41 (.pick (.tmp 23) (.tmp 40) (.const (.bool false))) 16,o 42 (.pick (.tmp 16) (.const (.bool true)) (.tmp 41))])
(.cond (t 42)
(S (R [o 2 (ab false)])
(.ret [2]))
.skip)))
(R [o 8 (mv 3),o 9 (bo .add (t 8) (n 1)),o 3 (av 9)])))
def yU:IR:=(S (R [o 2 (ab false)])
(S (S (R [o 3 (an 0)])
(.block 0 (.loop [0,3] HQ)))
(S (R [o 43 (mv 0),o 44 (len 43 42),o 45 (bo .leq (t 44) (n 16)),o 2 (av 45)])
(.ret [2]))))
def g139:IFn:=⟨46,[.tmp 2],[4],yU,[],false,none⟩
def yT:IR:=(S (R [z 3 (bx 23 0),o 6 (ab false)])
(S (R [o 7 (mv 1),o 8 (cl 59 #[(t 7)] #[3]),o 9 (mv 8),oT 10 (mv 2) 9,oT 11 (bo .geq (t 10) (n 0)) 9,o 12 (.pick (.tmp 9) (.tmp 11) (.const (.bool false))),o 13 (mv 12),oT 14 (mv 2) 13,oT 15 (mv 1) 13,oT 16 (ia 23 3 15) 13,oT 17 (ld 22 16) 13,oT 18 (len 17 22) 13,oT 19 (bo .lss (t 14) (t 18)) 13,o 20 (.pick (.tmp 13) (.tmp 19) (.const (.bool false))),o 6 (av 20)])
(.ret [6])))
def g140:IFn:=⟨21,[.tmp 6],[4],yT,[],false,none⟩
def yS:IR:=(S (R [o 4 (ab false)])
(S (R [o 5 (mv 0),o 6 (cl 59 #[(t 5)] #[3]),o 7 (mv 6),oT 8 (mv 1) 7,oT 9 (cl 96 #[(t 8),(n 0),(n 3)] #[3,3,3]) 7,o 10 (.pick (.tmp 7) (.tmp 9) (.const (.bool false))),o 4 (av 10)])
(.ret [4])))
def g141:IFn:=⟨11,[.tmp 4],[4],yS,[],false,none⟩
def yR:IR:=(S (R [o 4 (an 0)])
(S (R [o 5 (mv 0),o 6 (bo .mul (n 4) (t 5)),o 7 (mv 1),o 8 (bo .add (t 6) (t 7)),o 4 (av 8)])
(.ret [4])))
def g142:IFn:=⟨9,[.tmp 4],[3],yR,[],false,none⟩
def yQ:IR:=(S (R [z 1 (bx 50 0),o 2 (ab false)])
(S (R [o 3 (ld 50 1),o 4 (cl 144 #[(t 3)] #[50]),o 5 (.unOp .not 4 (.tmp 4)),o 2 (av 5)])
(.ret [2])))
def g143:IFn:=⟨6,[.tmp 2],[4],yQ,[],false,none⟩
def yP:IR:=(S (R [z 1 (bx 50 0),o 2 (ab false)])
(S (R [o 3 (fa 50 1 0),o 4 (ld 3 3),o 5 (cl 160 #[(t 4)] #[3]),o 6 (mv 5),oT 7 (fa 50 1 1) 6,oT 8 (ld 3 7) 6,oT 9 (cl 146 #[(t 8)] #[3]) 6,o 10 (.pick (.tmp 6) (.tmp 9) (.const (.bool false))),o 11 (mv 10),oT 12 (fa 50 1 2) 11,oT 13 (ld 3 12) 11,oT 14 (cl 180 #[(t 13),(n 255)] #[3,3]) 11,o 15 (.pick (.tmp 11) (.tmp 14) (.const (.bool false))),o 2 (av 15)])
(.ret [2])))
def g144:IFn:=⟨16,[.tmp 2],[4],yP,[],false,none⟩
def yO:IR:=(S (R [o 4 (ab false)])
(S (R [o 5 (mv 0),o 6 (mv 1),o 7 (cl 181 #[(t 5),(t 6)] #[22,126]),o 8 (bo .geq (t 7) (n 0)),o 4 (av 8)])
(.ret [4])))
def g145:IFn:=⟨9,[.tmp 4],[4],yO,[],false,none⟩
def yN:IR:=(S (R [o 2 (ab false)])
(S (R [o 3 (mv 0),o 4 (cl 180 #[(t 3),(n 65535)] #[3,3]),o 2 (av 4)])
(.ret [2])))
def g146:IFn:=⟨5,[.tmp 2],[4],yN,[],false,none⟩
def yM:IR:=(S (R [o 4 (ab false)])
(S (R [o 5 (mv 0),o 6 (mv 1),o 7 (cl 182 #[(t 5),(t 6)] #[25,137]),o 8 (bo .geq (t 7) (n 0)),o 4 (av 8)])
(.ret [4])))
def g147:IFn:=⟨9,[.tmp 4],[4],yM,[],false,none⟩
def yL:IR:=(S (R [z 2 (bx 46 0),o 3 (ab false)])
(S (R [o 4 (ld 137 1),o 5 (ld 46 2),o 6 (.call { callee:=(.value (.tmp 4)),args:=#[(.tmp 5)],argTypes:=#[46] }),o 7 (.unOp .not 4 (.tmp 6)),o 3 (av 7)])
(.ret [3])))
def g148:IFn:=⟨8,[.tmp 3],[4],yL,[],false,none⟩
def yK:IR:=(S (R [z 1 (bx 83 0),o 2 (ab false)])
(S (R [o 3 (fa 83 1 0),o 4 (ld 3 3),o 5 (cl 174 #[(t 4)] #[3]),o 6 (mv 5),oT 7 (fa 83 1 1) 6,oT 8 (ld 3 7) 6,oT 9 (cl 107 #[(t 8)] #[3]) 6,o 10 (.pick (.tmp 6) (.tmp 9) (.const (.bool false))),o 11 (mv 10),oT 12 (fa 83 1 2) 11,oT 13 (ld 3 12) 11,oT 14 (cl 107 #[(t 13)] #[3]) 11,o 15 (.pick (.tmp 11) (.tmp 14) (.const (.bool false))),o 16 (mv 15),oT 17 (fa 83 1 1) 16,oT 18 (ld 3 17) 16,oT 19 (fa 83 1 2) 16,oT 20 (ld 3 19) 16,oT 21 (cl 183 #[(t 18),(t 20)] #[3,3]) 16,o 22 (.pick (.tmp 16) (.tmp 21) (.const (.bool false))),o 23 (mv 22),oT 24 (fa 83 1 3) 23,oT 25 (ld 42 24) 23,oT 26 (cl 184 #[(t 25)] #[42]) 23,o 27 (.pick (.tmp 23) (.tmp 26) (.const (.bool false))),o 2 (av 27)])
(.ret [2])))
def g149:IFn:=⟨28,[.tmp 2],[4],yK,[],false,none⟩
def Qq:IR:=D [o 15 (fa 125 4 0),o 16 (ld 3 15),o 17 (cl 107 #[(t 16)] #[3]),o 18 (.unOp .not 4 (.tmp 17)),o 19 (mv 18),oF 20 (fa 125 4 1) 19,oF 21 (ld 3 20) 19,oF 22 (cl 185 #[(t 21)] #[3]) 19,oF 23 (.unOp .not 4 (.tmp 22)) 19,o 24 (.pick (.tmp 19) (.const (.bool true)) (.tmp 23)),o 25 (mv 24),oF 26 (fa 125 4 2) 25,oF 27 (ld 3 26) 25,oF 28 (cl 146 #[(t 27)] #[3]) 25,oF 29 (.unOp .not 4 (.tmp 28)) 25,o 30 (.pick (.tmp 25) (.const (.bool true)) (.tmp 29)),o 31 (mv 30),oF 32 (mv 0) 31,oF 33 (mv 3) 31,oF 34 (.slice 43 (.tmp 32) none (some (.tmp 33)) none) 31,oF 35 (ld 125 4) 31,oF 36 (cl 187 #[(t 35)] #[125]) 31,oF 37 (cl 186 #[(t 34),(t 36)] #[43,174]) 31,o 38 (.pick (.tmp 31) (.const (.bool true)) (.tmp 37))] [[],[0],[1],[2],[3,2],[4],[5,4],[6,4,4],[7,4],[4,8],[9,7],[10],[11,10],[12,10,10],[13,10],[10,14],[15,13],[16],[16],[17,18,16],[16],[20,16,16],[19,21,21,16],[16,22]]
def ID:IR:=(S (R [o 11 (bo .lss (t 10) (t 9))])
(S (.cond (t 11)
.skip
(.exit 0 []))
(S (.block 1 (S (R [o 12 (mv 10),o 13 (ia 43 8 10),o 14 (ld 125 13),o 4 (al 125),o 3 (av 12),w (st 125 4 14)])
(S Qq
(.cond (t 38)
(S (R [o 2 (ab false)])
(.ret [2]))
.skip))))
(R [o 39 (bo .add (t 10) (n 1)),o 10 (mv 39)]))))
def yJ:IR:=(S (R [o 2 (ab false)])
(S (S (R [o 5 (mv 0),o 6 (len 5 43),o 7 (bo .gtr (t 6) (n 16))])
(.cond (t 7)
(S (R [o 2 (ab false)])
(.ret [2]))
.skip))
(S (S (R [o 8 (mv 0),o 9 (len 8 43),o 10 (.move (.const (.int .i64 0)))])
(.block 0 (.loop [0,8,9,10] ID)))
(S (R [o 2 (ab true)])
(.ret [2])))))
def g150:IFn:=⟨40,[.tmp 2],[4],yJ,[],false,none⟩
def Qp:IR:=D [o 12 (fa 106 4 0),o 13 (ld 3 12),o 14 (cl 107 #[(t 13)] #[3]),o 15 (.unOp .not 4 (.tmp 14)),o 16 (mv 15),oF 17 (fa 106 4 1) 16,oF 18 (ld 3 17) 16,oF 19 (cl 185 #[(t 18)] #[3]) 16,oF 20 (.unOp .not 4 (.tmp 19)) 16,o 21 (.pick (.tmp 16) (.const (.bool true)) (.tmp 20)),o 22 (mv 21),oF 23 (fa 106 4 2) 22,oF 24 (ld 3 23) 22,oF 25 (cl 160 #[(t 24)] #[3]) 22,oF 26 (.unOp .not 4 (.tmp 25)) 22,o 27 (.pick (.tmp 22) (.const (.bool true)) (.tmp 26)),o 28 (mv 27),oF 29 (mv 3) 28,oF 30 (bo .gtr (t 29) (n 0)) 28,oF 31 (mv 30) 28,oT 32 (mv 0) 31,oT 33 (mv 3) 31,oT 34 (bo .sub (t 33) (n 1)) 31,oT 35 (ia 44 32 34) 31,oT 36 (ld 106 35) 31,oT 37 (ld 106 4) 31,oT 38 (cl 188 #[(t 36),(t 37)] #[106,106]) 31,oT 39 (bo .geq (t 38) (n 0)) 31,oF 40 (.pick (.tmp 31) (.tmp 39) (.const (.bool false))) 28,o 41 (.pick (.tmp 28) (.const (.bool true)) (.tmp 40))] [[],[0],[1],[2],[3,2],[4],[5,4],[6,4,4],[7,4],[4,8],[9,7],[10],[11,10],[12,10,10],[13,10],[10,14],[15,13],[16],[17,16],[18,16,16],[19],[19],[21,19],[20,22,19],[23,19],[19],[24,25,19,19],[26,19],[19,27,16],[16,28]]
def FE:IR:=(S (R [o 8 (bo .lss (t 7) (t 6))])
(S (.cond (t 8)
.skip
(.exit 0 [0]))
(S (.block 1 (S (R [o 9 (mv 7),o 10 (ia 44 5 7),o 11 (ld 106 10),o 4 (al 106),o 3 (av 9),w (st 106 4 11)])
(S Qp
(.cond (t 41)
(S (R [o 2 (ab false)])
(.ret [2]))
.skip))))
(R [o 42 (bo .add (t 7) (n 1)),o 7 (mv 42)]))))
def yI:IR:=(S (R [o 2 (ab false)])
(S (S (R [o 5 (mv 0),o 6 (len 5 44),o 7 (.move (.const (.int .i64 0)))])
(.block 0 (.loop [0,5,6,7] FE)))
(S (R [o 43 (mv 0),o 44 (len 43 44),o 45 (bo .leq (t 44) (n 16)),o 2 (av 45)])
(.ret [2]))))
def g151:IFn:=⟨46,[.tmp 2],[4],yI,[],false,none⟩
def yH:IR:=(S (R [z 3 (bx 174 1),o 4 (ab false)])
(S (R [o 5 (mv 0),o 6 (.makeFunc (Go.Fn.func 189) #[] #[(.tmp 3)]),o 7 (cl 186 #[(t 5),(t 6)] #[43,174]),o 8 (.unOp .not 4 (.tmp 7)),o 4 (av 8)])
(.ret [4])))
def g152:IFn:=⟨9,[.tmp 4],[4],yH,[],false,none⟩
def yG:IR:=(S (R [z 2 (bx 140 0),z 3 (bx 125 1),o 4 (ab false)])
(S (R [o 5 (fa 140 2 0),o 6 (ld 138 5),o 7 (fa 125 3 0),o 8 (ld 3 7),o 9 (fa 125 3 1),o 10 (ld 3 9),o 11 (cl 190 #[(t 6),(t 8),(t 10)] #[138,3,3]),o 4 (av 11)])
(.ret [4])))
def g153:IFn:=⟨12,[.tmp 4],[4],yG,[],false,none⟩
def yF:IR:=(S (R [z 3 (bx 176 1),o 4 (ab false)])
(S (R [o 5 (mv 0),o 6 (.makeFunc (Go.Fn.func 192) #[] #[(.tmp 3)]),o 7 (cl 191 #[(t 5),(t 6)] #[44,176]),o 8 (.unOp .not 4 (.tmp 7)),o 4 (av 8)])
(.ret [4])))
def g154:IFn:=⟨9,[.tmp 4],[4],yF,[],false,none⟩
def yE:IR:=(S (R [z 2 (bx 140 0),z 3 (bx 106 1),o 4 (ab false)])
(S (R [o 5 (fa 140 2 0),o 6 (ld 138 5),o 7 (fa 106 3 0),o 8 (ld 3 7),o 9 (fa 106 3 1),o 10 (ld 3 9),o 11 (cl 190 #[(t 6),(t 8),(t 10)] #[138,3,3]),o 4 (av 11)])
(.ret [4])))
def g155:IFn:=⟨12,[.tmp 4],[4],yE,[],false,none⟩
def yD:IR:=(S (R [z 3 (bx 178 1),o 4 (ab false)])
(S (R [o 5 (mv 0),o 6 (.makeFunc (Go.Fn.func 194) #[] #[(.tmp 3)]),o 7 (cl 193 #[(t 5),(t 6)] #[42,178]),o 8 (.unOp .not 4 (.tmp 7)),o 4 (av 8)])
(.ret [4])))
def g156:IFn:=⟨9,[.tmp 4],[4],yD,[],false,none⟩
def yC:IR:=(S (R [z 2 (bx 140 0),z 3 (bx 52 1),o 4 (ab false)])
(S (R [o 5 (ld 52 3),o 6 (cl 195 #[(t 5)] #[52]),o 7 (.unOp .not 4 (.tmp 6)),o 8 (mv 7),oF 9 (fa 140 2 0) 8,oF 10 (ld 138 9) 8,oF 11 (fa 52 3 2) 8,oF 12 (ld 3 11) 8,oF 13 (fa 52 3 3) 8,oF 14 (ld 3 13) 8,oF 15 (cl 190 #[(t 10),(t 12),(t 14)] #[138,3,3]) 8,o 16 (.pick (.tmp 8) (.const (.bool true)) (.tmp 15)),o 4 (av 16)])
(.ret [4])))
def g157:IFn:=⟨17,[.tmp 4],[4],yC,[],false,none⟩
def yB:IR:=(S (R [o 4 (ab false)])
(S (R [o 5 (mv 0),o 6 (bo .geq (t 5) (n 0)),o 7 (mv 6),oT 8 (mv 0) 7,oT 9 (mv 1) 7,oT 10 (bo .leq (t 8) (t 9)) 7,o 11 (.pick (.tmp 7) (.tmp 10) (.const (.bool false))),o 4 (av 11)])
(.ret [4])))
def g158:IFn:=⟨12,[.tmp 4],[4],yB,[],false,none⟩
def Um:IR:=(S (R [o 7 (bo .lss (t 6) (n 4))])
(S (.cond (t 7)
.skip
(.exit 0 []))
(S (.block 1 (S (R [o 8 (nc 5),o 9 (ia 24 8 6),o 10 (ld 3 9),o 4 (av 10)])
(S (R [o 11 (mv 4),o 12 (cl 160 #[(t 11)] #[3]),o 13 (.unOp .not 4 (.tmp 12))])
(.cond (t 13)
(S (R [o 2 (ab false)])
(.ret [2]))
.skip))))
(R [o 14 (bo .add (t 6) (n 1)),o 6 (mv 14)]))))
def rW:IR:=(S (R [o 2 (ab false)])
(S (S (R [o 5 (mv 0),o 6 (.move (.const (.int .i64 0)))])
(.block 0 (.loop [5,6] Um)))
(S (R [o 2 (ab true)])
(.ret [2]))))
def g159:IFn:=⟨15,[.tmp 2],[4],rW,[],false,none⟩
def yA:IR:=(S (R [o 2 (ab false)])
(S (R [o 3 (mv 0),o 4 (cl 180 #[(t 3),(n 255)] #[3,3]),o 2 (av 4)])
(.ret [2])))
def g160:IFn:=⟨5,[.tmp 2],[4],yA,[],false,none⟩
def xZ:IR:=(S (R [o 4 (ab false)])
(S (R [o 5 (mv 0),o 6 (mv 1),o 7 (cl 196 #[(t 5),(t 6)] #[26,135]),o 8 (bo .geq (t 7) (n 0)),o 4 (av 8)])
(.ret [4])))
def g161:IFn:=⟨9,[.tmp 4],[4],xZ,[],false,none⟩
def xY:IR:=(S (R [z 2 (bx 90 0),o 3 (ab false)])
(S (R [o 4 (ld 135 1),o 5 (ld 90 2),o 6 (.call { callee:=(.value (.tmp 4)),args:=#[(.tmp 5)],argTypes:=#[90] }),o 7 (.unOp .not 4 (.tmp 6)),o 3 (av 7)])
(.ret [3])))
def g162:IFn:=⟨8,[.tmp 3],[4],xY,[],false,none⟩
def c163:IR:=(S (R [o 2 (.assign (.const (.slice none 0 0)))])
(S (S (R [o 3 (mv 0),o 4 (.binOp .eql 22 (.tmp 3) (.const (.slice none 0 0)) 22)])
(.cond (t 4)
(S (R [o 2 (.assign (.const (.slice none 0 0)))])
(.ret [2]))
.skip))
(S (R [o 5 (.buildSlice 22 0 #[]),o 6 (mv 0),o 7 (.call { callee:=(.builtin .append),args:=#[(.tmp 5),(.tmp 6)],argTypes:=#[22,22] }),o 2 (av 7)])
(.ret [2]))))
def g163:IFn:=⟨8,[.tmp 2],[22],c163,[],false,some (3,24)⟩
def c164:IR:=(S (R [o 2 (.assign (.const (.slice none 0 0)))])
(S (S (R [o 3 (mv 0),o 4 (.binOp .eql 42 (.tmp 3) (.const (.slice none 0 0)) 42)])
(.cond (t 4)
(S (R [o 2 (.assign (.const (.slice none 0 0)))])
(.ret [2]))
.skip))
(S (R [o 5 (.buildSlice 42 0 #[]),o 6 (mv 0),o 7 (.call { callee:=(.builtin .append),args:=#[(.tmp 5),(.tmp 6)],argTypes:=#[42,42] }),o 2 (av 7)])
(.ret [2]))))
def g164:IFn:=⟨8,[.tmp 2],[42],c164,[],false,some (4,32)⟩
def c165:IR:=(S (R [o 2 (.assign (.const (.slice none 0 0)))])
(S (S (R [o 3 (mv 0),o 4 (.binOp .eql 43 (.tmp 3) (.const (.slice none 0 0)) 43)])
(.cond (t 4)
(S (R [o 2 (.assign (.const (.slice none 0 0)))])
(.ret [2]))
.skip))
(S (R [o 5 (.buildSlice 43 0 #[]),o 6 (mv 0),o 7 (.call { callee:=(.builtin .append),args:=#[(.tmp 5),(.tmp 6)],argTypes:=#[43,43] }),o 2 (av 7)])
(.ret [2]))))
def g165:IFn:=⟨8,[.tmp 2],[43],c165,[],false,some (3,24)⟩
def c166:IR:=(S (R [o 2 (.assign (.const (.slice none 0 0)))])
(S (S (R [o 3 (mv 0),o 4 (.binOp .eql 44 (.tmp 3) (.const (.slice none 0 0)) 44)])
(.cond (t 4)
(S (R [o 2 (.assign (.const (.slice none 0 0)))])
(.ret [2]))
.skip))
(S (R [o 5 (.buildSlice 44 0 #[]),o 6 (mv 0),o 7 (.call { callee:=(.builtin .append),args:=#[(.tmp 5),(.tmp 6)],argTypes:=#[44,44] }),o 2 (av 7)])
(.ret [2]))))
def g166:IFn:=⟨8,[.tmp 2],[44],c166,[],false,some (3,24)⟩
def xX:IR:=(S (R [z 3 (bx 3 1),o 4 (ab false)])
(S (R [o 6 (.makeFunc (Go.Fn.func 197) #[] #[(.tmp 3)]),o 5 (av 6)])
(S (R [o 7 (mv 0),o 8 (cl 151 #[(t 7)] #[44]),o 9 (mv 8),oT 10 (mv 0) 9,oT 11 (mv 5) 9,oT 12 (cl 191 #[(t 10),(t 11)] #[44,176]) 9,oT 13 (.unOp .not 4 (.tmp 12)) 9,o 14 (.pick (.tmp 9) (.tmp 13) (.const (.bool false))),o 4 (av 14)])
(.ret [4]))))
def g167:IFn:=⟨15,[.tmp 4],[4],xX,[],false,none⟩
def Qo:IR:=D [o 15 (mv 6),o 16 (nc 15),o 17 (fa 46 16 3),o 18 (ld 42 17),o 19 (mv 6),o 20 (nc 19),o 21 (fa 46 20 5),o 22 (ld 3 21),o 23 (ia 42 18 22),o 24 (fa 52 23 2),o 25 (ld 3 24),o 26 (mv 6),o 27 (nc 26),o 28 (fa 46 27 1),o 29 (ld 3 28),o 30 (cl 183 #[(t 25),(t 29)] #[3,3]),o 31 (.unOp .not 4 (.tmp 30)),o 4 (av 31),o 5 (an 0)] [[],[0],[1],[2],[],[4],[5],[6],[3,7],[8],[9],[],[11],[12],[13],[10,14],[15],[16,15,0,1,2,3,4,5,6,7,8,9,10,11,12,13,14,15,16],[17,0,1,2,3,4,5,6,7,8,9,10,11,12,13,14,15,16,17]]
def rV:IR:=(S (R [z 2 (bx 28 0),o 4 (ab false),o 5 (an 0)])
(S (S (R [o 7 (mv 1),o 8 (.buildSlice 59 1 #[(0,(.const (.int .i64 2)))]),o 9 (cl 127 #[(t 2),(t 7),(t 8)] #[73,3,59]),o 10 (.unOp .not 4 (.tmp 9))])
(.cond (t 10)
(S (R [o 4 (ab false),o 5 (an 1400)])
(.ret [4,5]))
.skip))
(S (R [o 11 (fa 28 2 3),o 12 (ld 25 11),o 13 (mv 1),o 14 (ia 25 12 13),o 6 (av 14)])
(S Qo
(.ret [4,5])))))
def g168:IFn:=⟨32,[.tmp 4,.tmp 5],[4,30],rV,[],false,none⟩
def Qn:IR:=D [o 30 (mv 8),o 31 (nc 30),o 32 (fa 46 31 1),o 33 (ld 3 32),o 34 (mv 8),o 35 (nc 34),o 36 (fa 46 35 3),o 37 (ld 42 36),o 38 (mv 8),o 39 (nc 38),o 40 (fa 46 39 5),o 41 (ld 3 40),o 42 (ia 42 37 41),o 43 (fa 52 42 2),o 44 (ld 3 43),o 45 (cl 198 #[(t 33),(t 44)] #[3,3]),o 29 (mv 45),o 46 (xt 29 0),o 47 (xt 29 1),o 9 (av 46),o 10 (av 47)] [[],[0],[1],[2],[],[4],[5],[6],[],[8],[9],[10],[7,11],[12],[13],[3,14],[15],[16],[16],[17,15,0,1,2,3,4,5,6,7,8,9,10,11,12,13,14,15,16,17],[18,19,0,1,2,3,4,5,6,7,8,9,10,11,12,13,14,15,16,17,18,19]]
def YA:IR:=(S (R [z 2 (bx 28 0),o 4 (al 28),o 5 (an 0)])
(S (S (R [o 13 (ld 28 2),o 14 (mv 1),o 15 (cl 168 #[(t 13),(t 14)] #[28,3]),o 12 (mv 15),o 16 (xt 12 0),o 17 (xt 12 1),o 6 (av 16),o 7 (av 17)])
(S (R [o 18 (mv 7),o 19 (.binOp .neq 30 (.tmp 18) (.const (.int .i64 0)) 30),o 20 (mv 19),oF 21 (mv 6) 20,oF 22 (.unOp .not 4 (.tmp 21)) 20,o 23 (.pick (.tmp 20) (.const (.bool true)) (.tmp 22))])
(.cond (t 23)
(S (R [o 24 (.build 28 #[]),w (st 28 4 24),o 5 (an 1400)])
(.ret [4,5]))
.skip)))
(S (R [o 25 (fa 28 2 3),o 26 (ld 25 25),o 27 (mv 1),o 28 (ia 25 26 27),o 8 (av 28)])
(S Qn
(S (S (R [o 48 (mv 9),o 49 (mv 8),o 50 (nc 49),o 51 (fa 46 50 2),o 52 (ld 3 51),o 53 (cl 183 #[(t 48),(t 52)] #[3,3]),o 54 (.unOp .not 4 (.tmp 53))])
(.cond (t 54)
(S (R [o 55 (ld 28 2),o 56 (mv 1),o 57 (cl 124 #[(t 55),(t 56),(n 4),(n 0)] #[28,3,3,3]),o 58 (xt 57 0),o 59 (xt 57 1),w (st 28 4 58),o 5 (av 59)])
(.ret [4,5]))
.skip))
(S (R [o 60 (ld 28 2),o 61 (cl 63 #[(t 60)] #[28]),o 11 (al 28),w (st 28 11 61)])
(S (R [o 62 (mv 1),o 63 (mv 9),o 64 (cl 128 #[(t 11),(t 62),(n 2),(t 63)] #[73,3,3,3])])
(S (R [o 65 (fa 28 11 3),o 66 (ld 25 65),o 67 (mv 1),o 68 (mv 9),o 69 (ia 25 66 67),o 70 (fa 46 69 1),w (st 3 70 68)])
(S (R [o 71 (ld 28 11),w (st 28 4 71),o 5 (an 0)])
(.ret [4,5]))))))))))
def g169:IFn:=⟨72,[.cell 4 28,.tmp 5],[28,30],YA,[],false,none⟩
def Qm:IR:=D [o 34 (mv 9),o 35 (nc 34),o 36 (fa 46 35 3),o 37 (ld 42 36),o 38 (mv 9),o 39 (nc 38),o 40 (fa 46 39 5),o 41 (ld 3 40),o 42 (ia 42 37 41),o 43 (ld 52 42),o 10 (al 52),w (st 52 10 43)] [[],[0],[1],[2],[],[4],[5],[6],[3,7],[8],[],[10,9,0,1,2,3,4,5,6,7,8,9,10]]
def Ql:IR:=D [o 45 (mv 9),o 46 (nc 45),o 47 (fa 46 46 8),o 48 (ld 44 47),o 49 (fa 52 10 2),o 50 (ld 3 49),o 51 (fa 52 10 3),o 52 (ld 3 51),o 53 (cl 199 #[(t 48),(t 50),(t 52)] #[44,3,3]),o 44 (mv 53),o 54 (xt 44 0),o 55 (xt 44 1),o 11 (av 54),o 12 (av 55)] [[],[0],[1],[2],[],[4],[],[6],[3,5,7],[8],[9],[9],[10,8,0,1,2,3,4,5,6,7,8,9,10],[11,12,0,1,2,3,4,5,6,7,8,9,10,11,12]]
def Qk:IR:=D [o 58 (fa 52 10 2),o 59 (ld 3 58),o 60 (fa 28 8 0),o 61 (ia 23 60 59),o 62 (ld 22 61),o 63 (fa 52 10 3),o 64 (ld 3 63),o 65 (ia 22 62 64),o 66 (ld 50 65),o 13 (al 50),w (st 50 13 66)] [[],[0],[],[2,1],[3],[],[5],[4,6],[7],[],[9,8,0,1,2,3,4,5,6,7,8,9]]
def Qj:IR:=D [o 68 (fa 28 8 0),o 69 (ld 23 68),o 70 (mv 9),o 71 (nc 70),o 72 (fa 46 71 7),o 73 (ld 43 72),o 74 (mv 9),o 75 (nc 74),o 76 (fa 46 75 0),o 77 (ld 3 76),o 78 (cl 125 #[(t 69),(t 73),(t 77)] #[23,43,3]),o 67 (mv 78),o 79 (xt 67 0),o 80 (xt 67 1),o 14 (av 79),o 15 (av 80)] [[],[0],[],[2],[3],[4],[],[6],[7],[8],[1,5,9],[10],[11],[11],[12,10,0,1,2,3,4,5,6,7,8,9,10,11,12],[13,14,0,1,2,3,4,5,6,7,8,9,10,11,12,13,14]]
def Qi:IR:=D [o 96 (mv 9),o 97 (mv 9),o 98 (nc 97),o 99 (fa 46 98 7),o 100 (ld 43 99),o 101 (fa 52 10 2),o 102 (ld 3 101),o 103 (fa 52 10 3),o 104 (ld 3 103),o 105 (fa 50 13 1),o 106 (ld 3 105),o 107 (.build 125 #[(0,(.tmp 102)),(1,(.tmp 104)),(2,(.tmp 106))]),o 108 (cl 200 #[(t 100),(t 107)] #[43,125]),o 95 (mv 108),o 109 (xt 95 0),o 110 (xt 95 1),o 111 (nc 96),o 112 (fa 46 111 7),w (st 43 112 109)] [[],[],[1],[2],[3],[],[5],[],[7],[],[9],[6,8,10],[4,11],[12],[13],[13],[0,0,1,2,3,4,5,6,7,8,9,10,11,12,13,14],[16,0,1,2,3,4,5,6,7,8,9,10,11,12,13,14],[17,14,12,0,1,2,3,4,5,6,7,8,9,10,11,12,13,14]]
def Qh:IR:=D [o 113 (mv 9),o 114 (fa 52 10 1),o 115 (ld 3 114),o 116 (mv 11),o 117 (nc 113),o 118 (fa 46 117 6),o 119 (ia 24 118 115),w (st 3 119 116)] [[],[],[1],[],[0],[4],[5,2,0,1,2,3],[6,3,0,1,2,3]]
def Ul:IR:=(S (R [z 2 (bx 28 0),o 4 (al 28),o 5 (an 0)])
(S (S (R [o 17 (ld 28 2),o 18 (mv 1),o 19 (cl 168 #[(t 17),(t 18)] #[28,3]),o 16 (mv 19),o 20 (xt 16 0),o 21 (xt 16 1),o 6 (av 20),o 7 (av 21)])
(S (R [o 22 (mv 7),o 23 (.binOp .neq 30 (.tmp 22) (.const (.int .i64 0)) 30),o 24 (mv 23),oF 25 (mv 6) 24,o 26 (.pick (.tmp 24) (.const (.bool true)) (.tmp 25))])
(.cond (t 26)
(S (R [o 27 (.build 28 #[]),w (st 28 4 27),o 5 (an 1500)])
(.ret [4,5]))
.skip)))
(S (R [o 28 (ld 28 2),o 29 (cl 63 #[(t 28)] #[28]),o 8 (al 28),w (st 28 8 29)])
(S (R [o 30 (fa 28 8 3),o 31 (ld 25 30),o 32 (mv 1),z 33 (ia 25 31 32),o 9 (av 33)])
(S Qm
(S Ql
(S (S (R [o 56 (mv 12),o 57 (.unOp .not 4 (.tmp 56))])
(.cond (t 57)
(S Qk
(S (S Qj
(S (R [o 81 (mv 14),o 82 (.unOp .not 4 (.tmp 81)),o 83 (mv 82),oF 84 (fa 50 13 2) 83,oF 85 (ld 3 84) 83,oF 86 (bo .neq (t 85) (n 0)) 83,o 87 (.pick (.tmp 83) (.const (.bool true)) (.tmp 86))])
(.cond (t 87)
(S (R [o 88 (ld 28 2),o 89 (mv 1),o 90 (cl 122 #[(t 88),(t 89),(n 3)] #[28,3,3]),o 91 (xt 90 0),o 92 (xt 90 1),w (st 28 4 91),o 5 (av 92)])
(.ret [4,5]))
.skip)))
(S (R [o 93 (fa 50 13 0),o 94 (ld 3 93),o 11 (av 94)])
Qi)))
.skip))
(S Qh
(S (R [o 120 (mv 9),o 121 (nc 120),o 122 (fa 46 121 5),o 123 (ld 3 122),o 124 (bo .add (t 123) (n 1)),o 125 (nc 120),o 126 (fa 46 125 5),w (st 3 126 124)])
(S (R [o 127 (mv 1),o 128 (mv 11),o 129 (cl 128 #[(t 8),(t 127),(n 0),(t 128)] #[73,3,3,3])])
(S (R [o 130 (ld 28 8),w (st 28 4 130),o 5 (an 0)])
(.ret [4,5]))))))))))))
def g170:IFn:=⟨131,[.cell 4 28,.tmp 5],[28,30],Ul,[],false,none⟩
def rU:IR:=(S (R [z 3 (bx 106 1),o 4 (.assign (.const (.slice none 0 0))),o 5 (an 0)])
(S (S (R [o 9 (mv 0),o 10 (cl 151 #[(t 9)] #[44]),o 11 (.unOp .not 4 (.tmp 10)),o 12 (mv 11),oF 13 (ld 106 3) 12,oF 14 (.buildSlice 44 1 #[(0,(.tmp 13))]) 12,oF 15 (cl 151 #[(t 14)] #[44]) 12,oF 16 (.unOp .not 4 (.tmp 15)) 12,o 17 (.pick (.tmp 12) (.const (.bool true)) (.tmp 16))])
(.cond (t 17)
(S (R [o 4 (.assign (.const (.slice none 0 0))),o 5 (an 1000)])
(.ret [4,5]))
.skip))
(S (R [o 18 (mv 0),o 19 (cl 166 #[(t 18)] #[44]),o 6 (av 19)])
(S (R [o 21 (mv 0),o 22 (ld 106 3),o 23 (cl 201 #[(t 21),(t 22),(f 188)] #[44,106,196]),o 20 (mv 23),o 24 (xt 20 0),o 25 (xt 20 1),o 7 (av 24),o 8 (av 25)])
(S (.block 0 (S (R [o 32 (mv 8),o 31 (av 32)])
(.cond (t 31)
(R [o 33 (mv 6),o 34 (mv 7),o 35 (ld 106 3),o 36 (ia 44 33 34),w (st 106 36 35)])
(S (R [o 38 (mv 0),o 39 (len 38 44),o 40 (bo .eql (t 39) (n 16)),o 37 (av 40)])
(.cond (t 37)
(S (R [o 4 (.assign (.const (.slice none 0 0))),o 5 (an 1000)])
(.ret [4,5]))
(R [o 26 (mv 6),o 27 (mv 7),o 28 (ld 106 3),o 29 (.buildSlice 44 1 #[(0,(.tmp 28))]),o 30 (cl 202 #[(t 26),(t 27),(t 29)] #[44,3,44]),o 6 (av 30)]))))))
(S (R [o 41 (mv 6),o 4 (av 41),o 5 (an 0)])
(.ret [4,5])))))))
def g171:IFn:=⟨42,[.tmp 4,.tmp 5],[44,30],rU,[],false,none⟩
def xW:IR:=(S (R [o 3 (bx 24 0),o 6 (al 24),o 7 (an 0)])
(S (S (R [o 8 (cl 159 #[(t 3)] #[133]),o 9 (.unOp .not 4 (.tmp 8)),o 10 (mv 9),oF 11 (mv 1) 10,oF 12 (cl 203 #[(t 11)] #[3]) 10,oF 13 (.unOp .not 4 (.tmp 12)) 10,o 14 (.pick (.tmp 10) (.const (.bool true)) (.tmp 13)),o 15 (mv 14),oF 16 (mv 2) 15,oF 17 (cl 160 #[(t 16)] #[3]) 15,oF 18 (.unOp .not 4 (.tmp 17)) 15,o 19 (.pick (.tmp 15) (.const (.bool true)) (.tmp 18))])
(.cond (t 19)
(S (R [o 20 (.build 24 #[]),w (st 24 6 20),o 7 (an 600)])
(.ret [6,7]))
.skip))
(S (R [o 21 (mv 1),o 22 (mv 2),o 23 (ia 24 3 21),w (st 3 23 22)])
(S (R [o 24 (ld 24 3),w (st 24 6 24),o 7 (an 0)])
(.ret [6,7])))))
def g172:IFn:=⟨25,[.cell 6 24,.tmp 7],[24,30],xW,[],false,none⟩
def Qg:IR:=D [o 22 (mv 1),o 23 (ia 24 3 22),o 24 (ld 3 23),o 25 (.convert 3 206 (.tmp 24)),o 26 (mv 2),o 27 (ia 24 3 26),o 28 (ld 3 27),o 29 (.convert 3 206 (.tmp 28)),o 30 (.call { callee:=(.builtin .complex),args:=#[(.tmp 25),(.tmp 29)],argTypes:=#[206,206] }),o 8 (av 30)] [[],[0],[1],[2],[],[4],[5],[6],[3,7],[8,0,1,2,3,4,5,6,7,8]]
def xV:IR:=(S (R [z 3 (bx 24 0),o 6 (al 24),o 7 (an 0)])
(S (S (R [o 9 (cl 159 #[(t 3)] #[133]),o 10 (.unOp .not 4 (.tmp 9)),o 11 (mv 10),oF 12 (mv 1) 11,oF 13 (cl 203 #[(t 12)] #[3]) 11,oF 14 (.unOp .not 4 (.tmp 13)) 11,o 15 (.pick (.tmp 11) (.const (.bool true)) (.tmp 14)),o 16 (mv 15),oF 17 (mv 2) 16,oF 18 (cl 203 #[(t 17)] #[3]) 16,oF 19 (.unOp .not 4 (.tmp 18)) 16,o 20 (.pick (.tmp 16) (.const (.bool true)) (.tmp 19))])
(.cond (t 20)
(S (R [o 21 (.build 24 #[]),w (st 24 6 21),o 7 (an 600)])
(.ret [6,7]))
.skip))
(S Qg
(S (R [o 31 (ld 24 3),o 32 (mv 1),o 33 (mv 8),o 34 (.call { callee:=(.builtin .real),args:=#[(.tmp 33)],argTypes:=#[205] }),o 35 (.convert 206 3 (.tmp 34)),o 36 (mv 8),o 37 (.call { callee:=(.builtin .imag),args:=#[(.tmp 36)],argTypes:=#[205] }),o 38 (.convert 206 3 (.tmp 37)),o 39 (bo .add (t 35) (t 38)),o 40 (bo .rem (t 39) (n 256)),o 41 (cl 172 #[(t 31),(t 32),(t 40)] #[24,3,3]),o 42 (xt 41 0),o 43 (xt 41 1),w (st 24 6 42),o 7 (av 43)])
(.ret [6,7])))))
def g173:IFn:=⟨44,[.cell 6 24,.tmp 7],[24,30],xV,[],false,none⟩
def xU:IR:=(S (R [o 2 (ab false)])
(S (R [o 3 (mv 0),o 4 (cl 180 #[(t 3),(n 254)] #[3,3]),o 2 (av 4)])
(.ret [2])))
def g174:IFn:=⟨5,[.tmp 2],[4],xU,[],false,none⟩
def xT:IR:=(S (R [o 4 (.assign (.const (.pointer none)))])
(S (R [o 6 (mv 0),o 7 (nc 6),o 8 (fa 28 7 3),o 9 (ld 25 8),o 10 (mv 1),o 11 (ia 25 9 10),o 5 (av 11)])
(S (R [o 12 (mv 0),o 13 (mv 5),o 14 (nc 13),o 15 (fa 46 14 0),o 16 (ld 3 15),o 17 (cl 204 #[(t 12),(t 16)] #[73,3])])
(S (R [o 18 (mv 5),o 19 (mv 5),o 20 (mv 5),o 21 (mv 5),o 22 (nc 18),o 23 (fa 46 22 7),w (.store 43 (.tmp 23) (.const (.slice none 0 0))),o 24 (nc 19),o 25 (fa 46 24 8),w (.store 44 (.tmp 25) (.const (.slice none 0 0))),o 26 (nc 20),o 27 (fa 46 26 9),w (.store 3 (.tmp 27) (.const (.int .i64 0))),o 28 (nc 21),o 29 (fa 46 28 10),w (.store 3 (.tmp 29) (.const (.int .i64 0)))])
(S (R [o 30 (mv 5),o 4 (av 30)])
(.ret [4]))))))
def g175:IFn:=⟨31,[.tmp 4],[98],xT,[],true,none⟩
def Qf:IR:=D [o 32 (mv 6),o 33 (mv 0),o 34 (fa 125 8 0),o 35 (ld 3 34),o 36 (nc 33),o 37 (ia 23 36 35),o 38 (ld 22 37),o 39 (fa 125 8 1),o 40 (ld 3 39),o 41 (ia 22 38 40),o 42 (ld 50 41),o 43 (.buildSlice 22 1 #[(0,(.tmp 42))]),o 44 (.call { callee:=(.builtin .append),args:=#[(.tmp 32),(.tmp 43)],argTypes:=#[22,22] }),o 6 (av 44)] [[],[],[],[2],[1],[4,3],[5],[],[7],[6,8],[9],[10],[0,11],[12,12,0,1,2,3,4,5,6,7,8,9,10,11,12]]
def HP:IR:=(S (R [o 22 (bo .lss (t 21) (t 20))])
(S (.cond (t 22)
.skip
(.exit 0 [6]))
(S (.block 1 (S (R [o 23 (ia 43 19 21),o 24 (ld 125 23),o 8 (al 125),w (st 125 8 24)])
(S (S (R [o 25 (mv 0),o 26 (fa 125 8 0),o 27 (ld 3 26),o 28 (fa 125 8 1),o 29 (ld 3 28),o 30 (cl 190 #[(t 25),(t 27),(t 29)] #[138,3,3]),o 31 (.unOp .not 4 (.tmp 30))])
(.cond (t 31)
(S (R [o 4 (.assign (.const (.slice none 0 0))),o 5 (ab false)])
(.ret [4,5]))
.skip))
Qf)))
(R [o 45 (bo .add (t 21) (n 1)),o 21 (mv 45)]))))
def dC:IR:=(S (R [o 4 (.assign (.const (.slice none 0 0))),o 5 (ab false)])
(S (S (R [o 9 (mv 0),o 10 (nc 9),o 11 (ld 23 10),o 12 (cl 103 #[(t 11)] #[23]),o 13 (.unOp .not 4 (.tmp 12)),o 14 (mv 13),oF 15 (mv 1) 14,oF 16 (cl 150 #[(t 15)] #[43]) 14,oF 17 (.unOp .not 4 (.tmp 16)) 14,o 18 (.pick (.tmp 14) (.const (.bool true)) (.tmp 17))])
(.cond (t 18)
(S (R [o 4 (.assign (.const (.slice none 0 0))),o 5 (ab false)])
(.ret [4,5]))
.skip))
(S (R [o 6 (.assign (.const (.slice none 0 0)))])
(S (S (R [o 19 (mv 1),o 20 (len 19 43),o 21 (.move (.const (.int .i64 0)))])
(.block 0 (.loop [0,6,19,20,21] HP)))
(S (R [o 46 (mv 6),o 4 (av 46),o 5 (ab true)])
(.ret [4,5]))))))
def g176:IFn:=⟨47,[.tmp 4,.tmp 5],[22,4],dC,[],false,none⟩
def rT:IR:=(S (R [o 4 (ab false)])
(S (R [o 5 (mv 0),o 6 (mv 1),o 7 (cl 205 #[(t 5),(t 6)] #[59,3]),o 8 (bo .geq (t 7) (n 0)),o 4 (av 8)])
(.ret [4])))
def g177:IFn:=⟨9,[.tmp 4],[4],rT,[],false,none⟩
def xS:IR:=(S (R [o 2 (ab false)])
(S (R [o 3 (mv 0),o 4 (cl 96 #[(t 3),(n 0),(n 3)] #[3,3,3]),o 2 (av 4)])
(.ret [2])))
def g178:IFn:=⟨5,[.tmp 2],[4],xS,[],false,none⟩
def xR:IR:=(S (R [z 1 (bx 52 0),o 2 (ab false)])
(S (S (R [o 3 (fa 52 1 0),o 4 (ld 3 3)])
(.block 0 (S (R [o 6 (bo .eql (t 4) (n 0)),o 5 (av 6)])
(.cond (t 5)
(S (R [o 7 (fa 52 1 1),o 8 (ld 3 7),o 9 (cl 178 #[(t 8)] #[3]),o 10 (mv 9),oT 11 (fa 52 1 2) 10,oT 12 (ld 3 11) 10,oT 13 (cl 102 #[(t 12)] #[3]) 10,o 14 (.pick (.tmp 10) (.tmp 13) (.const (.bool false))),o 15 (mv 14),oT 16 (fa 52 1 3) 15,oT 17 (ld 3 16) 15,oT 18 (bo .eql (t 17) (n 0)) 15,o 19 (.pick (.tmp 15) (.tmp 18) (.const (.bool false))),o 2 (av 19)])
(.ret [2]))
(S (R [o 21 (bo .eql (t 4) (n 1)),o 20 (av 21)])
(.cond (t 20)
(S (R [o 22 (fa 52 1 1),o 23 (ld 3 22),o 24 (cl 178 #[(t 23)] #[3]),o 25 (mv 24),oT 26 (fa 52 1 2) 25,oT 27 (ld 3 26) 25,oT 28 (cl 178 #[(t 27)] #[3]) 25,o 29 (.pick (.tmp 25) (.tmp 28) (.const (.bool false))),o 30 (mv 29),oT 31 (fa 52 1 3) 30,oT 32 (ld 3 31) 30,oT 33 (bo .eql (t 32) (n 0)) 30,o 34 (.pick (.tmp 30) (.tmp 33) (.const (.bool false))),o 2 (av 34)])
(.ret [2]))
(S (S (R [o 36 (bo .eql (t 4) (n 2)),o 35 (av 36)])
(.cond (t 35)
.skip
(R [o 37 (bo .eql (t 4) (n 3)),o 35 (av 37)])))
(.cond (t 35)
(S (R [o 38 (fa 52 1 1),o 39 (ld 3 38),o 40 (cl 178 #[(t 39)] #[3]),o 41 (mv 40),oT 42 (fa 52 1 2) 41,oT 43 (ld 3 42) 41,oT 44 (cl 59 #[(t 43)] #[3]) 41,o 45 (.pick (.tmp 41) (.tmp 44) (.const (.bool false))),o 46 (mv 45),oT 47 (fa 52 1 3) 46,oT 48 (ld 3 47) 46,oT 49 (cl 96 #[(t 48),(n 0),(n 3)] #[3,3,3]) 46,o 50 (.pick (.tmp 46) (.tmp 49) (.const (.bool false))),o 2 (av 50)])
(.ret [2]))
(S (R [o 52 (bo .eql (t 4) (n 4)),o 51 (av 52)])
(.cond (t 51)
(S (R [o 53 (fa 52 1 1),o 54 (ld 3 53),o 55 (cl 178 #[(t 54)] #[3]),o 56 (mv 55),oT 57 (fa 52 1 2) 56,oT 58 (ld 3 57) 56,oT 59 (cl 96 #[(t 58),(n 0),(n 16)] #[3,3,3]) 56,o 60 (.pick (.tmp 56) (.tmp 59) (.const (.bool false))),o 61 (mv 60),oT 62 (fa 52 1 3) 61,oT 63 (ld 3 62) 61,oT 64 (bo .eql (t 63) (n 0)) 61,o 65 (.pick (.tmp 61) (.tmp 64) (.const (.bool false))),o 2 (av 65)])
(.ret [2]))
(S (R [o 67 (bo .eql (t 4) (n 5)),o 66 (av 67)])
(.cond (t 66)
(S (R [o 68 (ld 52 1),o 69 (.build 52 #[(0,(.const (.int .i64 5)))]),o 70 (.binOp .eql 52 (.tmp 68) (.tmp 69) 52),o 2 (av 70)])
(.ret [2]))
(S (R [o 72 (bo .eql (t 4) (n 6)),o 71 (av 72)])
(.cond (t 71)
(S (R [o 73 (fa 52 1 1),o 74 (ld 3 73),o 75 (cl 102 #[(t 74)] #[3]),o 76 (mv 75),oT 77 (fa 52 1 2) 76,oT 78 (ld 3 77) 76,oT 79 (bo .eql (t 78) (n 0)) 76,o 80 (.pick (.tmp 76) (.tmp 79) (.const (.bool false))),o 81 (mv 80),oT 82 (fa 52 1 3) 81,oT 83 (ld 3 82) 81,oT 84 (bo .eql (t 83) (n 0)) 81,o 85 (.pick (.tmp 81) (.tmp 84) (.const (.bool false))),o 2 (av 85)])
(.ret [2]))
.skip))))))))))))))
(S (R [o 2 (ab false)])
(.ret [2]))))
def g179:IFn:=⟨86,[.tmp 2],[4],xR,[],false,none⟩
def xQ:IR:=(S (R [o 4 (ab false)])
(S (R [o 5 (mv 0),o 6 (bo .geq (t 5) (n 0)),o 7 (mv 6),oT 8 (mv 0) 7,oT 9 (mv 1) 7,oT 10 (bo .leq (t 8) (t 9)) 7,o 11 (.pick (.tmp 7) (.tmp 10) (.const (.bool false))),o 4 (av 11)])
(.ret [4])))
def g180:IFn:=⟨12,[.tmp 4],[4],xQ,[],false,none⟩
def Np:IR:=(S (R [o 9 (bo .lss (t 8) (t 7))])
(S (.cond (t 9)
.skip
(.exit 0 []))
(S (.block 1 (S (R [o 10 (mv 8),o 5 (av 10)])
(S (R [o 11 (mv 1),o 12 (mv 0),o 13 (mv 5),o 14 (ia 22 12 13),o 15 (ld 50 14),o 16 (.call { callee:=(.value (.tmp 11)),args:=#[(.tmp 15)],argTypes:=#[50] })])
(.cond (t 16)
(S (R [o 17 (mv 5),o 4 (av 17)])
(.ret [4]))
.skip))))
(R [o 18 (bo .add (t 8) (n 1)),o 8 (mv 18)]))))
def xP:IR:=(S (R [o 4 (an 0)])
(S (S (R [o 6 (mv 0),o 7 (len 6 22),o 8 (.move (.const (.int .i64 0)))])
(.block 0 (.loop [0,1,7,8] Np)))
(S (R [o 4 (an (-1))])
(.ret [4]))))
def g181:IFn:=⟨19,[.tmp 4],[3],xP,[],false,none⟩
def No:IR:=(S (R [o 9 (bo .lss (t 8) (t 7))])
(S (.cond (t 9)
.skip
(.exit 0 []))
(S (.block 1 (S (R [o 10 (mv 8),o 5 (av 10)])
(S (R [o 11 (mv 1),o 12 (mv 0),o 13 (mv 5),o 14 (ia 25 12 13),o 15 (ld 46 14),o 16 (.call { callee:=(.value (.tmp 11)),args:=#[(.tmp 15)],argTypes:=#[46] })])
(.cond (t 16)
(S (R [o 17 (mv 5),o 4 (av 17)])
(.ret [4]))
.skip))))
(R [o 18 (bo .add (t 8) (n 1)),o 8 (mv 18)]))))
def xO:IR:=(S (R [o 4 (an 0)])
(S (S (R [o 6 (mv 0),o 7 (len 6 25),o 8 (.move (.const (.int .i64 0)))])
(.block 0 (.loop [0,1,7,8] No)))
(S (R [o 4 (an (-1))])
(.ret [4]))))
def g182:IFn:=⟨19,[.tmp 4],[3],xO,[],false,none⟩
def xN:IR:=(S (R [o 4 (ab false)])
(S (R [o 5 (mv 0),o 6 (mv 1),o 7 (bo .or (t 5) (t 6)),o 8 (mv 1),o 9 (bo .eql (t 7) (t 8)),o 4 (av 9)])
(.ret [4])))
def g183:IFn:=⟨10,[.tmp 4],[4],xN,[],false,none⟩
def KZ:IR:=(S (R [o 8 (bo .lss (t 7) (t 6))])
(S (.cond (t 8)
.skip
(.exit 0 [0]))
(S (.block 1 (S (R [o 9 (mv 7),o 10 (ia 42 5 7),o 11 (ld 52 10),o 4 (al 52),o 3 (av 9),w (st 52 4 11)])
(S (R [o 12 (ld 52 4),o 13 (cl 206 #[(t 12)] #[52]),o 14 (.unOp .not 4 (.tmp 13)),o 15 (mv 14),oF 16 (fa 52 4 0) 15,oF 17 (ld 3 16) 15,oF 18 (bo .eql (t 17) (n 4)) 15,oF 19 (mv 18) 15,oT 20 (fa 52 4 2) 19,oT 21 (ld 3 20) 19,oT 22 (mv 3) 19,oT 23 (bo .leq (t 21) (t 22)) 19,oT 24 (mv 23) 19,oF 25 (fa 52 4 2) 24,oF 26 (ld 3 25) 24,oF 27 (mv 0) 24,oF 28 (len 27 42) 24,oF 29 (bo .gtr (t 26) (t 28)) 24,oT 30 (.pick (.tmp 24) (.const (.bool true)) (.tmp 29)) 19,oF 31 (.pick (.tmp 19) (.tmp 30) (.const (.bool false))) 15,o 32 (.pick (.tmp 15) (.const (.bool true)) (.tmp 31))])
(.cond (t 32)
(S (R [o 2 (ab false)])
(.ret [2]))
.skip))))
(R [o 33 (bo .add (t 7) (n 1)),o 7 (mv 33)]))))
def xM:IR:=(S (R [o 2 (ab false)])
(S (S (R [o 5 (mv 0),o 6 (len 5 42),o 7 (.move (.const (.int .i64 0)))])
(.block 0 (.loop [0,5,6,7] KZ)))
(S (R [o 34 (mv 0),o 35 (len 34 42),o 36 (bo .leq (t 35) (n 16)),o 2 (av 36)])
(.ret [2]))))
def g184:IFn:=⟨37,[.tmp 2],[4],xM,[],false,none⟩
def xL:IR:=(S (R [o 2 (ab false)])
(S (R [o 3 (mv 0),o 4 (bo .geq (t 3) (n 0)),o 5 (mv 4),oT 6 (mv 0) 5,oT 7 (bo .lss (t 6) (n 4)) 5,o 8 (.pick (.tmp 5) (.tmp 7) (.const (.bool false))),o 2 (av 8)])
(.ret [2])))
def g185:IFn:=⟨9,[.tmp 2],[4],xL,[],false,none⟩
def xK:IR:=(S (R [o 4 (ab false)])
(S (R [o 5 (mv 0),o 6 (mv 1),o 7 (cl 207 #[(t 5),(t 6)] #[43,174]),o 8 (bo .geq (t 7) (n 0)),o 4 (av 8)])
(.ret [4])))
def g186:IFn:=⟨9,[.tmp 4],[4],xK,[],false,none⟩
def xJ:IR:=(S (R [z 1 (bx 125 0),o 2 (.assign (.const .nilFunc))])
(S (R [o 3 (.makeFunc (Go.Fn.func 208) #[] #[(.tmp 1)]),o 2 (av 3)])
(.ret [2])))
def g187:IFn:=⟨4,[.tmp 2],[174],xJ,[],false,none⟩
def xI:IR:=(S (R [z 2 (bx 106 0),z 3 (bx 106 1),o 4 (an 0)])
(S (R [o 5 (fa 106 2 0),o 6 (ld 3 5),o 7 (fa 106 3 0),o 8 (ld 3 7),o 9 (bo .sub (t 6) (t 8)),o 10 (fa 106 2 1),o 11 (ld 3 10),o 12 (fa 106 3 1),o 13 (ld 3 12),o 14 (bo .sub (t 11) (t 13)),o 15 (.buildSlice 59 2 #[(0,(.tmp 9)),(1,(.tmp 14))]),o 16 (cl 209 #[(t 15)] #[59]),o 4 (av 16)])
(.ret [4])))
def g188:IFn:=⟨17,[.tmp 4],[3],xI,[],false,none⟩
def xH:IR:=(S (R [z 2 (bx 125 0),o 3 (ab false)])
(S (R [o 4 (ld 174 1),o 5 (ld 125 2),o 6 (.call { callee:=(.value (.tmp 4)),args:=#[(.tmp 5)],argTypes:=#[125] }),o 7 (.unOp .not 4 (.tmp 6)),o 3 (av 7)])
(.ret [3])))
def g189:IFn:=⟨8,[.tmp 3],[4],xH,[],false,none⟩
def xG:IR:=(S (R [o 6 (ab false)])
(S (R [o 7 (mv 1),o 8 (cl 107 #[(t 7)] #[3]),o 9 (mv 8),oT 10 (mv 2) 9,oT 11 (bo .geq (t 10) (n 0)) 9,o 12 (.pick (.tmp 9) (.tmp 11) (.const (.bool false))),o 13 (mv 12),oT 14 (mv 2) 13,oT 15 (mv 0) 13,oT 16 (mv 1) 13,oT 17 (nc 15) 13,oT 18 (ia 23 17 16) 13,oT 19 (ld 22 18) 13,oT 20 (len 19 22) 13,oT 21 (bo .lss (t 14) (t 20)) 13,o 22 (.pick (.tmp 13) (.tmp 21) (.const (.bool false))),o 6 (av 22)])
(.ret [6])))
def g190:IFn:=⟨23,[.tmp 6],[4],xG,[],false,none⟩
def xF:IR:=(S (R [o 4 (ab false)])
(S (R [o 5 (mv 0),o 6 (mv 1),o 7 (cl 210 #[(t 5),(t 6)] #[44,176]),o 8 (bo .geq (t 7) (n 0)),o 4 (av 8)])
(.ret [4])))
def g191:IFn:=⟨9,[.tmp 4],[4],xF,[],false,none⟩
def xE:IR:=(S (R [z 2 (bx 106 0),o 3 (ab false)])
(S (R [o 4 (ld 176 1),o 5 (ld 106 2),o 6 (.call { callee:=(.value (.tmp 4)),args:=#[(.tmp 5)],argTypes:=#[106] }),o 7 (.unOp .not 4 (.tmp 6)),o 3 (av 7)])
(.ret [3])))
def g192:IFn:=⟨8,[.tmp 3],[4],xE,[],false,none⟩
def xD:IR:=(S (R [o 4 (ab false)])
(S (R [o 5 (mv 0),o 6 (mv 1),o 7 (cl 211 #[(t 5),(t 6)] #[42,178]),o 8 (bo .geq (t 7) (n 0)),o 4 (av 8)])
(.ret [4])))
def g193:IFn:=⟨9,[.tmp 4],[4],xD,[],false,none⟩
def xC:IR:=(S (R [z 2 (bx 52 0),o 3 (ab false)])
(S (R [o 4 (ld 178 1),o 5 (ld 52 2),o 6 (.call { callee:=(.value (.tmp 4)),args:=#[(.tmp 5)],argTypes:=#[52] }),o 7 (.unOp .not 4 (.tmp 6)),o 3 (av 7)])
(.ret [3])))
def g194:IFn:=⟨8,[.tmp 3],[4],xC,[],false,none⟩
def xB:IR:=(S (R [z 1 (bx 52 0),o 2 (ab false)])
(S (R [o 3 (fa 52 1 0),o 4 (ld 3 3),o 5 (bo .eql (t 4) (n 2)),o 6 (mv 5),oF 7 (fa 52 1 0) 6,oF 8 (ld 3 7) 6,oF 9 (bo .eql (t 8) (n 3)) 6,o 10 (.pick (.tmp 6) (.const (.bool true)) (.tmp 9)),o 2 (av 10)])
(.ret [2])))
def g195:IFn:=⟨11,[.tmp 2],[4],xB,[],false,none⟩
def Nn:IR:=(S (R [o 9 (bo .lss (t 8) (t 7))])
(S (.cond (t 9)
.skip
(.exit 0 []))
(S (.block 1 (S (R [o 10 (mv 8),o 5 (av 10)])
(S (R [o 11 (mv 1),o 12 (mv 0),o 13 (mv 5),o 14 (ia 26 12 13),o 15 (ld 90 14),o 16 (.call { callee:=(.value (.tmp 11)),args:=#[(.tmp 15)],argTypes:=#[90] })])
(.cond (t 16)
(S (R [o 17 (mv 5),o 4 (av 17)])
(.ret [4]))
.skip))))
(R [o 18 (bo .add (t 8) (n 1)),o 8 (mv 18)]))))
def xA:IR:=(S (R [o 4 (an 0)])
(S (S (R [o 6 (mv 0),o 7 (len 6 26),o 8 (.move (.const (.int .i64 0)))])
(.block 0 (.loop [0,1,7,8] Nn)))
(S (R [o 4 (an (-1))])
(.ret [4]))))
def g196:IFn:=⟨19,[.tmp 4],[3],xA,[],false,none⟩
def wZ:IR:=(S (R [z 2 (bx 106 0),o 3 (ab false)])
(S (R [o 4 (fa 106 2 0),o 5 (ld 3 4),o 6 (ld 3 1),o 7 (bo .neq (t 5) (t 6)),o 3 (av 7)])
(.ret [3])))
def g197:IFn:=⟨8,[.tmp 3],[4],wZ,[],false,none⟩
def wY:IR:=(S (R [o 4 (an 0),o 5 (an 0)])
(S (S (R [o 6 (mv 0),o 7 (cl 107 #[(t 6)] #[3]),o 8 (.unOp .not 4 (.tmp 7)),o 9 (mv 8),oF 10 (mv 1) 9,oF 11 (cl 107 #[(t 10)] #[3]) 9,oF 12 (.unOp .not 4 (.tmp 11)) 9,o 13 (.pick (.tmp 9) (.const (.bool true)) (.tmp 12))])
(.cond (t 13)
(S (R [o 4 (an 0),o 5 (an 100)])
(.ret [4,5]))
.skip))
(S (R [o 14 (mv 0),o 15 (mv 1),o 16 (bo .or (t 14) (t 15)),o 4 (av 16),o 5 (an 0)])
(.ret [4,5]))))
def g198:IFn:=⟨17,[.tmp 4,.tmp 5],[3,30],wY,[],false,none⟩
def rS:IR:=(S (R [o 6 (an 0),o 7 (ab false)])
(S (R [o 11 (mv 0),o 12 (mv 1),o 13 (mv 2),o 14 (.build 106 #[(0,(.tmp 12)),(1,(.tmp 13))]),o 15 (cl 201 #[(t 11),(t 14),(f 188)] #[44,106,196]),o 10 (mv 15),o 16 (xt 10 0),o 17 (xt 10 1),o 8 (av 16),o 9 (av 17)])
(S (S (R [o 18 (mv 0),o 19 (cl 151 #[(t 18)] #[44]),o 20 (.unOp .not 4 (.tmp 19)),o 21 (mv 20),oF 22 (mv 9) 21,oF 23 (.unOp .not 4 (.tmp 22)) 21,o 24 (.pick (.tmp 21) (.const (.bool true)) (.tmp 23))])
(.cond (t 24)
(S (R [o 6 (an 0),o 7 (ab false)])
(.ret [6,7]))
.skip))
(S (R [o 25 (mv 0),o 26 (mv 8),o 27 (ia 44 25 26),o 28 (fa 106 27 2),o 29 (ld 3 28),o 6 (av 29),o 7 (ab true)])
(.ret [6,7])))))
def g199:IFn:=⟨30,[.tmp 6,.tmp 7],[3,4],rS,[],false,none⟩
def Yz:IR:=(S (R [z 3 (bx 125 1),o 4 (.assign (.const (.slice none 0 0))),o 5 (an 0)])
(S (S (R [o 7 (mv 0),o 8 (cl 150 #[(t 7)] #[43]),o 9 (.unOp .not 4 (.tmp 8)),o 10 (mv 9),oF 11 (ld 125 3) 10,oF 12 (.buildSlice 43 1 #[(0,(.tmp 11))]) 10,oF 13 (cl 150 #[(t 12)] #[43]) 10,oF 14 (.unOp .not 4 (.tmp 13)) 10,o 15 (.pick (.tmp 10) (.const (.bool true)) (.tmp 14))])
(.cond (t 15)
(S (R [o 4 (.assign (.const (.slice none 0 0))),o 5 (an 900)])
(.ret [4,5]))
.skip))
(S (R [o 16 (mv 0),o 17 (cl 165 #[(t 16)] #[43]),o 6 (av 17)])
(S (S (R [o 18 (mv 0),o 19 (ld 125 3),o 20 (cl 187 #[(t 19)] #[125]),o 21 (cl 186 #[(t 18),(t 20)] #[43,174])])
(.cond (t 21)
(S (R [o 22 (mv 6),o 4 (av 22),o 5 (an 0)])
(.ret [4,5]))
.skip))
(S (S (R [o 23 (mv 0),o 24 (len 23 43),o 25 (bo .eql (t 24) (n 16))])
(.cond (t 25)
(S (R [o 4 (.assign (.const (.slice none 0 0))),o 5 (an 900)])
(.ret [4,5]))
.skip))
(S (R [o 26 (mv 6),o 27 (ld 125 3),o 28 (.buildSlice 43 1 #[(0,(.tmp 27))]),o 29 (.call { callee:=(.builtin .append),args:=#[(.tmp 26),(.tmp 28)],argTypes:=#[43,43] }),o 4 (av 29),o 5 (an 0)])
(.ret [4,5])))))))
def g200:IFn:=⟨30,[.tmp 4,.tmp 5],[43,30],Yz,[],false,none⟩
def Qe:IR:=D [o 24 (mv 2),o 25 (mv 0),o 26 (mv 11),o 27 (ia 44 25 26),o 28 (ld 106 27),o 29 (ld 106 4),o 30 (.call { callee:=(.value (.tmp 24)),args:=#[(.tmp 28),(.tmp 29)],argTypes:=#[106,106] }),o 31 (bo .lss (t 30) (n 0))] [[],[],[],[1,2],[3],[],[0,4,5],[6]]
def KY:IR:=(S (S (R [o 15 (mv 9),o 16 (mv 10),o 17 (bo .lss (t 15) (t 16))])
(.cond (t 17)
.skip
(.exit 0 [0,2,4,8,9])))
(.block 1 (S (R [o 18 (mv 9),o 19 (mv 10),o 20 (bo .add (t 18) (t 19)),o 21 (.convert 3 41 (.tmp 20)),o 22 (.binOp .shr 41 (.tmp 21) (.const (.int .u64 1)) 41),o 23 (.convert 41 3 (.tmp 22)),o 11 (av 23)])
(S Qe
(.cond (t 31)
(R [o 32 (mv 11),o 33 (bo .add (t 32) (n 1)),o 9 (av 33)])
(R [o 34 (mv 11),o 10 (av 34)]))))))
def Qd:IR:=D [o 35 (mv 9),o 36 (mv 9),o 37 (mv 8),o 38 (bo .lss (t 36) (t 37)),o 39 (mv 38),oT 40 (mv 2) 39,oT 41 (mv 0) 39,oT 42 (mv 9) 39,oT 43 (ia 44 41 42) 39,oT 44 (ld 106 43) 39,oT 45 (ld 106 4) 39,oT 46 (.call { callee:=(.value (.tmp 40)),args:=#[(.tmp 44),(.tmp 45)],argTypes:=#[106,106] }) 39,oT 47 (bo .eql (t 46) (n 0)) 39,o 48 (.pick (.tmp 39) (.tmp 47) (.const (.bool false))),o 6 (av 35),o 7 (av 48)] [[],[],[],[1,2],[3],[4],[4],[4],[6,7,4],[8,4],[4],[5,9,10,4,4],[11,4],[4,12],[0,11,0],[13,14,0,1,2,3,4,5,6,7,8,9,10,11,12,13,14]]
def wX:IR:=(S (R [z 4 (bx 106 1),o 6 (an 0),o 7 (ab false)])
(S (R [o 12 (mv 0),o 13 (len 12 44),o 8 (av 13)])
(S (R [o 14 (mv 8),o 9 (an 0),o 10 (av 14)])
(S (.block 0 (.loop [0,2,4,8,9,10] KY))
(S Qd
(.ret [6,7]))))))
def g201:IFn:=⟨49,[.tmp 6,.tmp 7],[3,4],wX,[],false,none⟩
def Qc:IR:=D [o 46 (mv 9),o 47 (mv 1),o 48 (mv 7),o 49 (bo .add (t 47) (t 48)),o 50 (.slice 44 (.tmp 46) (some (.tmp 49)) none none),o 51 (mv 0),o 52 (mv 1),o 53 (.slice 44 (.tmp 51) (some (.tmp 52)) none none),o 54 (.call { callee:=(.builtin .copy),args:=#[(.tmp 50),(.tmp 53)],argTypes:=#[44,44] })] [[],[],[],[1,2],[0,3],[],[],[5,6],[4,7]]
def Qb:IR:=D [o 69 (mv 0),o 70 (mv 1),o 71 (mv 7),o 72 (bo .add (t 70) (t 71)),o 73 (.slice 44 (.tmp 69) (some (.tmp 72)) none none),o 74 (mv 0),o 75 (mv 1),o 76 (.slice 44 (.tmp 74) (some (.tmp 75)) none none),o 77 (.call { callee:=(.builtin .copy),args:=#[(.tmp 73),(.tmp 76)],argTypes:=#[44,44] })] [[],[],[],[1,2],[0,3],[],[],[5,6],[4,7]]
def c202:IR:=(S (R [o 6 (.assign (.const (.slice none 0 0)))])
(S (R [o 10 (mv 0),o 11 (mv 1),o 12 (.slice 44 (.tmp 10) (some (.tmp 11)) none none)])
(S (R [o 13 (mv 2),o 14 (len 13 44),o 7 (av 14)])
(S (S (R [o 15 (mv 7),o 16 (bo .eql (t 15) (n 0))])
(.cond (t 16)
(S (R [o 17 (mv 0),o 6 (av 17)])
(.ret [6]))
.skip))
(S (R [o 18 (mv 0),o 19 (len 18 44),o 8 (av 19)])
(S (S (R [o 20 (mv 1),o 21 (mv 8),o 22 (bo .eql (t 20) (t 21))])
(.cond (t 22)
(S (R [o 23 (mv 0),o 24 (mv 2),o 25 (.call { callee:=(.builtin .append),args:=#[(.tmp 23),(.tmp 24)],argTypes:=#[44,44] }),o 6 (av 25)])
(.ret [6]))
.skip))
(S (S (R [o 26 (mv 8),o 27 (mv 7),o 28 (bo .add (t 26) (t 27)),o 29 (mv 0),o 30 (.call { callee:=(.builtin .cap),args:=#[(.tmp 29)],argTypes:=#[44] }),o 31 (bo .gtr (t 28) (t 30))])
(.cond (t 31)
(S (R [o 32 (mv 0),o 33 (mv 1),o 34 (.slice 44 (.tmp 32) none (some (.tmp 33)) none),o 35 (mv 8),o 36 (mv 7),o 37 (bo .add (t 35) (t 36)),o 38 (mv 1),o 39 (bo .sub (t 37) (t 38)),o 40 (.call { callee:=(.builtin .append),args:=#[(.tmp 34),(.tmp 39)],argTypes:=#[44,3] }),o 9 (av 40)])
(S (R [o 41 (mv 9),o 42 (mv 1),o 43 (.slice 44 (.tmp 41) (some (.tmp 42)) none none),o 44 (mv 2),o 45 (.call { callee:=(.builtin .copy),args:=#[(.tmp 43),(.tmp 44)],argTypes:=#[44,44] })])
(S Qc
(S (R [o 55 (mv 9),o 6 (av 55)])
(.ret [6])))))
.skip))
(S (R [o 56 (mv 0),o 57 (mv 8),o 58 (mv 7),o 59 (bo .add (t 57) (t 58)),o 60 (.slice 44 (.tmp 56) none (some (.tmp 59)) none),o 0 (av 60)])
(S (S (R [o 61 (mv 2),o 62 (mv 0),o 63 (mv 1),o 64 (mv 7),o 65 (bo .add (t 63) (t 64)),o 66 (.slice 44 (.tmp 62) (some (.tmp 65)) none none),o 67 (cl 212 #[(t 61),(t 66)] #[44,44]),o 68 (.unOp .not 4 (.tmp 67))])
(.cond (t 68)
(S Qb
(S (R [o 78 (mv 0),o 79 (mv 1),o 80 (.slice 44 (.tmp 78) (some (.tmp 79)) none none),o 81 (mv 2),o 82 (.call { callee:=(.builtin .copy),args:=#[(.tmp 80),(.tmp 81)],argTypes:=#[44,44] })])
(S (R [o 83 (mv 0),o 6 (av 83)])
(.ret [6]))))
.skip))
(S (R [o 84 (mv 0),o 85 (mv 8),o 86 (.slice 44 (.tmp 84) (some (.tmp 85)) none none),o 87 (mv 2),o 88 (.call { callee:=(.builtin .copy),args:=#[(.tmp 86),(.tmp 87)],argTypes:=#[44,44] })])
(S (R [o 89 (mv 0),o 90 (mv 1),o 91 (.slice 44 (.tmp 89) (some (.tmp 90)) none none),o 92 (mv 7),o 93 (cl 213 #[(t 91),(t 92)] #[44,3])])
(S (R [o 94 (mv 0),o 6 (av 94)])
(.ret [6])))))))))))))
def g202:IFn:=⟨95,[.tmp 6],[44],c202,[true],false,some (3,24)⟩
def wW:IR:=(S (R [o 2 (ab false)])
(S (R [o 3 (mv 0),o 4 (bo .geq (t 3) (n 0)),o 5 (mv 4),oT 6 (mv 0) 5,oT 7 (bo .lss (t 6) (n 4)) 5,o 8 (.pick (.tmp 5) (.tmp 7) (.const (.bool false))),o 2 (av 8)])
(.ret [2])))
def g203:IFn:=⟨9,[.tmp 2],[4],wW,[],false,none⟩
def CE:IR:=(S (S (R [o 7 (mv 5),o 8 (mv 0),o 9 (mv 4),o 10 (nc 8),o 11 (fa 28 10 0),o 12 (ia 23 11 9),o 13 (ld 22 12),o 14 (len 13 22),o 15 (bo .lss (t 7) (t 14))])
(.cond (t 15)
.skip
(.exit 0 [0,1,4])))
(.block 1 (S (S (R [o 16 (mv 0),o 17 (mv 4),o 18 (nc 16),o 19 (fa 28 18 0),o 20 (ia 23 19 17),o 21 (ld 22 20),o 22 (mv 5),o 23 (ia 22 21 22),o 6 (av 23)])
(S (R [o 24 (mv 6),o 25 (nc 24),o 26 (fa 50 25 2),o 27 (ld 3 26),o 28 (mv 1),o 29 (bo .add (t 28) (n 1)),o 30 (bo .eql (t 27) (t 29))])
(.cond (t 30)
(R [o 31 (mv 6),o 32 (nc 31),o 33 (fa 50 32 2),w (.store 3 (.tmp 33) (.const (.int .i64 0)))])
.skip)))
(R [o 34 (mv 5),o 35 (bo .add (t 34) (n 1)),o 5 (av 35)]))))
def JJ:IR:=(S (R [o 4 (an 0),o 5 (an 0)])
(S (.label 0)
(S (.block 0 (.loop [0,1,4,5] CE))
(S (R [o 36 (mv 4),o 37 (bo .add (t 36) (n 1)),o 4 (av 37)])
(S (R [o 38 (mv 4),o 39 (bo .lss (t 38) (n 4))])
(.cond (t 39)
(S (R [o 5 (an 0)])
(.goto 0))
.skip))))))
def wV:IR:=(.scope [0,1,4,5] JJ)
def g204:IFn:=⟨40,[],[],wV,[],true,none⟩
def KX:IR:=(S (R [o 9 (bo .lss (t 8) (t 7))])
(S (.cond (t 9)
.skip
(.exit 0 []))
(S (.block 1 (S (R [o 10 (mv 8),o 5 (av 10)])
(S (R [o 11 (mv 1),o 12 (mv 0),o 13 (mv 5),o 14 (ia 59 12 13),o 15 (ld 3 14),o 16 (bo .eql (t 11) (t 15))])
(.cond (t 16)
(S (R [o 17 (mv 5),o 4 (av 17)])
(.ret [4]))
.skip))))
(R [o 18 (bo .add (t 8) (n 1)),o 8 (mv 18)]))))
def Yy:IR:=(S (R [o 4 (an 0)])
(S (S (R [o 6 (mv 0),o 7 (len 6 59),o 8 (.move (.const (.int .i64 0)))])
(.block 0 (.loop [0,1,7,8] KX)))
(S (R [o 4 (an (-1))])
(.ret [4]))))
def g205:IFn:=⟨19,[.tmp 4],[3],Yy,[],false,none⟩
def Qa:IR:=D [o 3 (ld 52 1),o 4 (cl 214 #[(t 3)] #[52]),o 5 (ld 52 1),o 6 (.binOp .neq 52 (.tmp 4) (.tmp 5) 52)] [[],[0],[],[1,2]]
def wU:IR:=(S (R [z 1 (bx 52 0),o 2 (ab false)])
(S (S Qa
(.cond (t 6)
(S (R [o 2 (ab false)])
(.ret [2]))
.skip))
(S (S (R [o 7 (fa 52 1 0),o 8 (ld 3 7)])
(.block 0 (S (R [o 10 (bo .eql (t 8) (n 0)),o 9 (av 10)])
(.cond (t 9)
(S (R [o 11 (fa 52 1 1),o 12 (ld 3 11),o 13 (cl 203 #[(t 12)] #[3]),o 14 (mv 13),oT 15 (fa 52 1 2) 14,oT 16 (ld 3 15) 14,oT 17 (cl 160 #[(t 16)] #[3]) 14,o 18 (.pick (.tmp 14) (.tmp 17) (.const (.bool false))),o 2 (av 18)])
(.ret [2]))
(S (R [o 20 (bo .eql (t 8) (n 1)),o 19 (av 20)])
(.cond (t 19)
(S (R [o 21 (fa 52 1 1),o 22 (ld 3 21),o 23 (cl 203 #[(t 22)] #[3]),o 24 (mv 23),oT 25 (fa 52 1 2) 24,oT 26 (ld 3 25) 24,oT 27 (cl 203 #[(t 26)] #[3]) 24,o 28 (.pick (.tmp 24) (.tmp 27) (.const (.bool false))),o 2 (av 28)])
(.ret [2]))
(S (S (R [o 30 (bo .eql (t 8) (n 2)),o 29 (av 30)])
(.cond (t 29)
.skip
(R [o 31 (bo .eql (t 8) (n 3)),o 29 (av 31)])))
(.cond (t 29)
(S (R [o 32 (fa 52 1 1),o 33 (ld 3 32),o 34 (cl 203 #[(t 33)] #[3]),o 35 (mv 34),oT 36 (fa 52 1 2) 35,oT 37 (ld 3 36) 35,oT 38 (cl 107 #[(t 37)] #[3]) 35,o 39 (.pick (.tmp 35) (.tmp 38) (.const (.bool false))),o 40 (mv 39),oT 41 (fa 52 1 3) 40,oT 42 (ld 3 41) 40,oT 43 (bo .geq (t 42) (n 0)) 40,o 44 (.pick (.tmp 40) (.tmp 43) (.const (.bool false))),o 45 (mv 44),oT 46 (fa 52 1 3) 45,oT 47 (ld 3 46) 45,oT 48 (bo .lss (t 47) (n 4)) 45,o 49 (.pick (.tmp 45) (.tmp 48) (.const (.bool false))),o 2 (av 49)])
(.ret [2]))
(S (R [o 51 (bo .eql (t 8) (n 4)),o 50 (av 51)])
(.cond (t 50)
(S (R [o 52 (fa 52 1 1),o 53 (ld 3 52),o 54 (cl 203 #[(t 53)] #[3]),o 55 (mv 54),oT 56 (fa 52 1 2) 55,oT 57 (ld 3 56) 55,oT 58 (bo .geq (t 57) (n 0)) 55,o 59 (.pick (.tmp 55) (.tmp 58) (.const (.bool false))),o 60 (mv 59),oT 61 (fa 52 1 2) 60,oT 62 (ld 3 61) 60,oT 63 (bo .leq (t 62) (n 16)) 60,o 64 (.pick (.tmp 60) (.tmp 63) (.const (.bool false))),o 2 (av 64)])
(.ret [2]))
(S (R [o 66 (bo .eql (t 8) (n 5)),o 65 (av 66)])
(.cond (t 65)
(S (R [o 2 (ab true)])
(.ret [2]))
.skip))))))))))))
(S (R [o 67 (fa 52 1 0),o 68 (ld 3 67),o 69 (bo .eql (t 68) (n 6)),o 70 (mv 69),oT 71 (fa 52 1 1) 70,oT 72 (ld 3 71) 70,oT 73 (cl 160 #[(t 72)] #[3]) 70,o 74 (.pick (.tmp 70) (.tmp 73) (.const (.bool false))),o 2 (av 74)])
(.ret [2])))))
def g206:IFn:=⟨75,[.tmp 2],[4],wU,[],false,none⟩
def Nm:IR:=(S (R [o 9 (bo .lss (t 8) (t 7))])
(S (.cond (t 9)
.skip
(.exit 0 []))
(S (.block 1 (S (R [o 10 (mv 8),o 5 (av 10)])
(S (R [o 11 (mv 1),o 12 (mv 0),o 13 (mv 5),o 14 (ia 43 12 13),o 15 (ld 125 14),o 16 (.call { callee:=(.value (.tmp 11)),args:=#[(.tmp 15)],argTypes:=#[125] })])
(.cond (t 16)
(S (R [o 17 (mv 5),o 4 (av 17)])
(.ret [4]))
.skip))))
(R [o 18 (bo .add (t 8) (n 1)),o 8 (mv 18)]))))
def wT:IR:=(S (R [o 4 (an 0)])
(S (S (R [o 6 (mv 0),o 7 (len 6 43),o 8 (.move (.const (.int .i64 0)))])
(.block 0 (.loop [0,1,7,8] Nm)))
(S (R [o 4 (an (-1))])
(.ret [4]))))
def g207:IFn:=⟨19,[.tmp 4],[3],wT,[],false,none⟩
def wS:IR:=(S (R [z 2 (bx 125 0),o 3 (ab false)])
(S (R [o 4 (fa 125 2 0),o 5 (ld 3 4),o 6 (fa 125 1 0),o 7 (ld 3 6),o 8 (bo .eql (t 5) (t 7)),o 9 (mv 8),oT 10 (fa 125 2 1) 9,oT 11 (ld 3 10) 9,oT 12 (fa 125 1 1) 9,oT 13 (ld 3 12) 9,oT 14 (bo .eql (t 11) (t 13)) 9,o 15 (.pick (.tmp 9) (.tmp 14) (.const (.bool false))),o 3 (av 15)])
(.ret [3])))
def g208:IFn:=⟨16,[.tmp 3],[4],wS,[],false,none⟩
def QM:IR:=(S (R [o 9 (bo .lss (t 8) (t 7))])
(S (.cond (t 9)
.skip
(.exit 0 [3]))
(S (.block 1 (S (R [o 10 (ia 59 6 8),o 11 (ld 3 10),o 5 (av 11)])
(S (R [o 12 (mv 5),o 13 (mv 3),o 14 (bo .neq (t 12) (t 13))])
(.cond (t 14)
(S (R [o 15 (mv 5),o 2 (av 15)])
(.ret [2]))
.skip))))
(R [o 16 (bo .add (t 8) (n 1)),o 8 (mv 16)]))))
def wR:IR:=(S (R [o 2 (an 0)])
(S (R [o 3 (an 0)])
(S (S (R [o 6 (mv 0),o 7 (len 6 59),o 8 (.move (.const (.int .i64 0)))])
(.block 0 (.loop [3,6,7,8] QM)))
(S (R [o 17 (mv 3),o 2 (av 17)])
(.ret [2])))))
def g209:IFn:=⟨18,[.tmp 2],[3],wR,[],false,none⟩
def Nl:IR:=(S (R [o 9 (bo .lss (t 8) (t 7))])
(S (.cond (t 9)
.skip
(.exit 0 []))
(S (.block 1 (S (R [o 10 (mv 8),o 5 (av 10)])
(S (R [o 11 (mv 1),o 12 (mv 0),o 13 (mv 5),o 14 (ia 44 12 13),o 15 (ld 106 14),o 16 (.call { callee:=(.value (.tmp 11)),args:=#[(.tmp 15)],argTypes:=#[106] })])
(.cond (t 16)
(S (R [o 17 (mv 5),o 4 (av 17)])
(.ret [4]))
.skip))))
(R [o 18 (bo .add (t 8) (n 1)),o 8 (mv 18)]))))
def wQ:IR:=(S (R [o 4 (an 0)])
(S (S (R [o 6 (mv 0),o 7 (len 6 44),o 8 (.move (.const (.int .i64 0)))])
(.block 0 (.loop [0,1,7,8] Nl)))
(S (R [o 4 (an (-1))])
(.ret [4]))))
def g210:IFn:=⟨19,[.tmp 4],[3],wQ,[],false,none⟩
def Nk:IR:=(S (R [o 9 (bo .lss (t 8) (t 7))])
(S (.cond (t 9)
.skip
(.exit 0 []))
(S (.block 1 (S (R [o 10 (mv 8),o 5 (av 10)])
(S (R [o 11 (mv 1),o 12 (mv 0),o 13 (mv 5),o 14 (ia 42 12 13),o 15 (ld 52 14),o 16 (.call { callee:=(.value (.tmp 11)),args:=#[(.tmp 15)],argTypes:=#[52] })])
(.cond (t 16)
(S (R [o 17 (mv 5),o 4 (av 17)])
(.ret [4]))
.skip))))
(R [o 18 (bo .add (t 8) (n 1)),o 8 (mv 18)]))))
def wP:IR:=(S (R [o 4 (an 0)])
(S (S (R [o 6 (mv 0),o 7 (len 6 42),o 8 (.move (.const (.int .i64 0)))])
(.block 0 (.loop [0,1,7,8] Nk)))
(S (R [o 4 (an (-1))])
(.ret [4]))))
def g211:IFn:=⟨19,[.tmp 4],[3],wP,[],false,none⟩
def c213:IR:=(R [o 4 (mv 0),o 5 (mv 0),o 6 (len 5 44),o 7 (mv 1),o 8 (bo .sub (t 6) (t 7)),o 9 (cl 215 #[(t 4),(t 8)] #[44,3])])
def g213:IFn:=⟨10,[],[],c213,[],false,none⟩
def PZ:IR:=D [o 13 (fa 52 1 1),o 14 (ld 3 13),o 15 (fa 52 1 2),o 16 (ld 3 15),o 17 (fa 52 3 1),w (st 3 17 14),o 18 (fa 52 3 2),w (st 3 18 16)] [[],[0],[],[2],[0,1],[4,1,0,1],[0,1,2,3,4,5],[6,3,5,0,1,2,3,4,5]]
def wO:IR:=(S (R [z 1 (bx 52 0),o 2 (al 52)])
(S (R [o 4 (fa 52 1 0),o 5 (ld 3 4),o 6 (.build 52 #[(0,(.tmp 5))]),o 3 (al 52),w (st 52 3 6)])
(S (S (R [o 7 (fa 52 1 0),o 8 (ld 3 7)])
(.block 0 (S (S (R [o 10 (bo .eql (t 8) (n 0)),o 9 (av 10)])
(.cond (t 9)
.skip
(S (R [o 11 (bo .eql (t 8) (n 1)),o 9 (av 11)])
(.cond (t 9)
.skip
(R [o 12 (bo .eql (t 8) (n 4)),o 9 (av 12)])))))
(.cond (t 9)
PZ
(S (S (R [o 20 (bo .eql (t 8) (n 2)),o 19 (av 20)])
(.cond (t 19)
.skip
(R [o 21 (bo .eql (t 8) (n 3)),o 19 (av 21)])))
(.cond (t 19)
(R [o 22 (ld 52 1),w (st 52 3 22)])
(S (R [o 24 (bo .eql (t 8) (n 6)),o 23 (av 24)])
(.cond (t 23)
(R [o 25 (fa 52 1 1),o 26 (ld 3 25),o 27 (fa 52 3 1),w (st 3 27 26)])
.skip))))))))
(S (R [o 28 (ld 52 3),w (st 52 2 28)])
(.ret [2])))))
def g214:IFn:=⟨29,[.cell 2 52],[52],wO,[],false,none⟩
def c215:IR:=(S (R [o 4 (mv 0),o 5 (mv 1),o 6 (.slice 44 (.tmp 4) none (some (.tmp 5)) none),o 7 (cl 216 #[(t 6)] #[44])])
(S (R [o 8 (mv 0),o 9 (mv 1),o 10 (.slice 44 (.tmp 8) (some (.tmp 9)) none none),o 11 (cl 216 #[(t 10)] #[44])])
(R [o 12 (mv 0),o 13 (cl 216 #[(t 12)] #[44])])))
def g215:IFn:=⟨14,[],[],c215,[],false,none⟩
def PY:IR:=D [o 14 (mv 0),o 15 (mv 2),o 16 (mv 0),o 17 (mv 3),o 18 (mv 0),o 19 (mv 3),o 20 (ia 44 18 19),o 21 (ld 106 20),o 22 (mv 0),o 23 (mv 2),o 24 (ia 44 22 23),o 25 (ld 106 24),o 26 (ia 44 14 15),w (st 106 26 21),o 27 (ia 44 16 17),w (st 106 27 25)] [[],[],[],[],[],[],[4,5],[6],[],[],[8,9],[10],[0,1,0,1,4,5,6,7,11],[12,7,0,1,4,5,6,7,11],[2,3,0,1,2,3,4,5,6,7,8,9,10,11,12,13],[14,11,13,0,1,2,3,4,5,6,7,8,9,10,11,12,13]]
def rR:IR:=(S (S (R [o 7 (mv 2),o 8 (mv 3),o 9 (bo .lss (t 7) (t 8))])
(.cond (t 9)
.skip
(.exit 0 [])))
(S (.block 1 PY)
(R [o 10 (mv 2),o 11 (bo .add (t 10) (n 1)),o 12 (mv 3),o 13 (bo .sub (t 12) (n 1)),o 2 (av 11),o 3 (av 13)])))
def c216:IR:=(S (R [o 4 (mv 0),o 5 (len 4 44),o 6 (bo .sub (t 5) (n 1)),o 2 (an 0),o 3 (av 6)])
(.block 0 (.loop [0,2,3] rR)))
def g216:IFn:=⟨28,[],[],c216,[],false,none⟩
def Rg:List (Nat × IFn):=[(3,g3),(4,g4),(5,g5),(6,g6),(7,g7),(8,g8),(9,g9),(10,g10),(11,g11),(12,g12),(13,g13),(14,g14),(15,g15),(16,g16),(17,g17),(18,g18),(19,g19),(20,g20),(21,g21),(22,g22),(23,g23),(24,g24),(25,g25),(26,g26),(27,g27),(28,g28),(29,g29),(30,g30),(31,g31),(32,g32),(33,g33),(34,g34),(35,g35),(36,g36),(37,g37),(38,g38),(39,g39),(40,g40),(41,g41),(42,g42),(43,g43),(44,g44),(45,g45),(46,g46),(47,g47),(48,g48),(49,g49),(50,g50),(51,g51),(52,g52),(53,g53),(54,g54),(55,g55),(56,g56),(57,g57),(58,g58),(59,g59),(60,g60),(61,g61),(62,g62),(63,g63),(64,g64),(65,g65),(66,g66),(67,g67),(68,g68),(69,g69),(70,g70),(71,g71),(72,g72),(73,g73),(74,g74),(75,g75),(76,g76),(77,g77),(78,g78),(79,g79),(80,g80),(81,g81),(82,g82),(83,g83),(84,g84),(85,g85),(86,g86),(87,g87),(88,g88),(89,g89),(90,g90),(91,g91),(92,g92),(93,g93),(94,g94),(95,g95),(96,g96),(97,g97),(98,g98),(99,g99),(100,g100),(101,g101),(102,g102),(103,g103),(104,g104),(105,g105),(106,g106),(107,g107),(108,g108),(109,g109),(110,g110),(111,g111),(112,g112),(113,g113),(114,g114),(115,g115),(116,g116),(117,g117),(118,g118),(119,g119),(120,g120),(121,g121),(122,g122),(123,g123),(124,g124),(125,g125),(126,g126),(127,g127),(128,g128),(129,g129),(130,g130),(131,g131),(132,g132),(133,g133),(134,g134),(135,g135),(136,g136),(137,g137),(138,g138),(139,g139),(140,g140),(141,g141),(142,g142),(143,g143),(144,g144),(145,g145),(146,g146),(147,g147),(148,g148),(149,g149),(150,g150),(151,g151),(152,g152),(153,g153),(154,g154),(155,g155),(156,g156),(157,g157),(158,g158),(159,g159),(160,g160),(161,g161),(162,g162),(163,g163),(164,g164),(165,g165),(166,g166),(167,g167),(168,g168),(169,g169),(170,g170),(171,g171),(172,g172),(173,g173),(174,g174),(175,g175),(176,g176),(177,g177),(178,g178),(179,g179),(180,g180),(181,g181),(182,g182),(183,g183),(184,g184),(185,g185),(186,g186),(187,g187),(188,g188),(189,g189),(190,g190),(191,g191),(192,g192),(193,g193),(194,g194),(195,g195),(196,g196),(197,g197),(198,g198),(199,g199),(200,g200),(201,g201),(202,g202),(203,g203),(204,g204),(205,g205),(206,g206),(207,g207),(208,g208),(209,g209),(210,g210),(211,g211),(213,g213),(214,g214),(215,g215),(216,g216)]
def tbl:Tbl:=lk Rg
def ctx:Ctx:=⟨lay,tbl⟩
@[go_sem] theorem ctx_L:ctx.L=lay:=rfl
@[go_sem] theorem ctx_T:ctx.T=tbl:=rfl
attribute [go_sem] y1 y2 y3 y4 y5 y6 y7 y8 y9 y10 y11 y12 y13 y22 y23 y24 y25 y26 y28 y30 y41 y42 y43 y44 y46 y50 y52 y59 y62 y73 y75 y81 y83 y84 y85 y87 y90 y98 WY YG eJ eH eG eF eD eC eB eA dZ dY dX dW
@[go_sem] theorem lay_1:lay 1=some y1:=rfl
@[go_sem] theorem lay_2:lay 2=some y2:=rfl
@[go_sem] theorem lay_3:lay 3=some y3:=rfl
@[go_sem] theorem lay_4:lay 4=some y4:=rfl
@[go_sem] theorem lay_5:lay 5=some y5:=rfl
@[go_sem] theorem lay_6:lay 6=some y6:=rfl
@[go_sem] theorem lay_7:lay 7=some y7:=rfl
@[go_sem] theorem lay_8:lay 8=some y8:=rfl
@[go_sem] theorem lay_9:lay 9=some y9:=rfl
@[go_sem] theorem lay_10:lay 10=some y10:=rfl
@[go_sem] theorem lay_11:lay 11=some y11:=rfl
@[go_sem] theorem lay_12:lay 12=some y12:=rfl
@[go_sem] theorem lay_13:lay 13=some y13:=rfl
@[go_sem] theorem lay_22:lay 22=some y22:=rfl
@[go_sem] theorem lay_23:lay 23=some y23:=rfl
@[go_sem] theorem lay_24:lay 24=some y24:=rfl
@[go_sem] theorem lay_25:lay 25=some y25:=rfl
@[go_sem] theorem lay_26:lay 26=some y26:=rfl
@[go_sem] theorem lay_28:lay 28=some y28:=rfl
@[go_sem] theorem lay_30:lay 30=some y30:=rfl
@[go_sem] theorem lay_41:lay 41=some y41:=rfl
@[go_sem] theorem lay_42:lay 42=some y42:=rfl
@[go_sem] theorem lay_43:lay 43=some y43:=rfl
@[go_sem] theorem lay_44:lay 44=some y44:=rfl
@[go_sem] theorem lay_46:lay 46=some y46:=rfl
@[go_sem] theorem lay_50:lay 50=some y50:=rfl
@[go_sem] theorem lay_52:lay 52=some y52:=rfl
@[go_sem] theorem lay_59:lay 59=some y59:=rfl
@[go_sem] theorem lay_62:lay 62=some y62:=rfl
@[go_sem] theorem lay_73:lay 73=some y73:=rfl
@[go_sem] theorem lay_75:lay 75=some y75:=rfl
@[go_sem] theorem lay_81:lay 81=some y81:=rfl
@[go_sem] theorem lay_83:lay 83=some y83:=rfl
@[go_sem] theorem lay_84:lay 84=some y84:=rfl
@[go_sem] theorem lay_85:lay 85=some y85:=rfl
@[go_sem] theorem lay_87:lay 87=some y87:=rfl
@[go_sem] theorem lay_90:lay 90=some y90:=rfl
@[go_sem] theorem lay_98:lay 98=some y98:=rfl
@[go_sem] theorem lay_106:lay 106=some WY:=rfl
@[go_sem] theorem lay_125:lay 125=some YG:=rfl
@[go_sem] theorem lay_126:lay 126=some eJ:=rfl
@[go_sem] theorem lay_133:lay 133=some eH:=rfl
@[go_sem] theorem lay_135:lay 135=some eG:=rfl
@[go_sem] theorem lay_137:lay 137=some eF:=rfl
@[go_sem] theorem lay_138:lay 138=some eD:=rfl
@[go_sem] theorem lay_140:lay 140=some eC:=rfl
@[go_sem] theorem lay_174:lay 174=some eB:=rfl
@[go_sem] theorem lay_176:lay 176=some eA:=rfl
@[go_sem] theorem lay_178:lay 178=some dZ:=rfl
@[go_sem] theorem lay_196:lay 196=some dY:=rfl
@[go_sem] theorem lay_205:lay 205=some dX:=rfl
@[go_sem] theorem lay_206:lay 206=some dW:=rfl
@[go_sem] theorem k3:Ah tbl 3 []:=fun _ _ _ _ _ _=>rfl
@[go_sem] theorem k4:Ah tbl 4 []:=fun _ _ _ _ _ _=>rfl
@[go_sem] theorem k5:Ah tbl 5 []:=fun _ _ _ _ _ _=>rfl
@[go_sem] theorem k6:Ah tbl 6 []:=fun _ _ _ _ _ _=>rfl
@[go_sem] theorem k7:Ah tbl 7 []:=fun _ _ _ _ _ _=>rfl
@[go_sem] theorem k8:Ah tbl 8 []:=fun _ _ _ _ _ _=>rfl
@[go_sem] theorem k9:Ah tbl 9 []:=fun _ _ _ _ _ _=>rfl
@[go_sem] theorem k10:Ah tbl 10 []:=fun _ _ _ _ _ _=>rfl
@[go_sem] theorem k11:Ah tbl 11 []:=fun _ _ _ _ _ _=>rfl
@[go_sem] theorem k12:Ah tbl 12 []:=fun _ _ _ _ _ _=>rfl
@[go_sem] theorem k13:Ah tbl 13 []:=fun _ _ _ _ _ _=>rfl
@[go_sem] theorem k14:Ah tbl 14 []:=fun _ _ _ _ _ _=>rfl
@[go_sem] theorem k15:Ah tbl 15 []:=fun _ _ _ _ _ _=>rfl
@[go_sem] theorem k16:Ah tbl 16 []:=fun _ _ _ _ _ _=>rfl
@[go_sem] theorem k17:Ah tbl 17 []:=fun _ _ _ _ _ _=>rfl
@[go_sem] theorem k18:Ah tbl 18 []:=fun _ _ _ _ _ _=>rfl
@[go_sem] theorem k19:Ah tbl 19 []:=fun _ _ _ _ _ _=>rfl
@[go_sem] theorem k20:Ah tbl 20 [true]:=fun _ _ _ _ _ _=>rfl
@[go_sem] theorem k21:Ah tbl 21 []:=fun _ _ _ _ _ _=>rfl
@[go_sem] theorem k22:Ah tbl 22 []:=fun _ _ _ _ _ _=>rfl
@[go_sem] theorem k23:Ah tbl 23 []:=fun _ _ _ _ _ _=>rfl
@[go_sem] theorem k24:Ah tbl 24 []:=fun _ _ _ _ _ _=>rfl
@[go_sem] theorem k25:Ah tbl 25 []:=fun _ _ _ _ _ _=>rfl
@[go_sem] theorem k26:Ah tbl 26 []:=fun _ _ _ _ _ _=>rfl
@[go_sem] theorem k27:Ah tbl 27 []:=fun _ _ _ _ _ _=>rfl
@[go_sem] theorem k28:Ah tbl 28 []:=fun _ _ _ _ _ _=>rfl
@[go_sem] theorem k29:Ah tbl 29 []:=fun _ _ _ _ _ _=>rfl
@[go_sem] theorem k30:Ah tbl 30 []:=fun _ _ _ _ _ _=>rfl
@[go_sem] theorem k31:Ah tbl 31 []:=fun _ _ _ _ _ _=>rfl
@[go_sem] theorem k32:Ah tbl 32 []:=fun _ _ _ _ _ _=>rfl
@[go_sem] theorem k33:Ah tbl 33 []:=fun _ _ _ _ _ _=>rfl
@[go_sem] theorem k34:Ah tbl 34 []:=fun _ _ _ _ _ _=>rfl
@[go_sem] theorem k35:Ah tbl 35 []:=fun _ _ _ _ _ _=>rfl
@[go_sem] theorem k36:Ah tbl 36 []:=fun _ _ _ _ _ _=>rfl
@[go_sem] theorem k37:Ah tbl 37 []:=fun _ _ _ _ _ _=>rfl
@[go_sem] theorem k38:Ah tbl 38 []:=fun _ _ _ _ _ _=>rfl
@[go_sem] theorem k39:Ah tbl 39 []:=fun _ _ _ _ _ _=>rfl
@[go_sem] theorem k40:Ah tbl 40 []:=fun _ _ _ _ _ _=>rfl
@[go_sem] theorem k41:Ah tbl 41 []:=fun _ _ _ _ _ _=>rfl
@[go_sem] theorem k42:Ah tbl 42 []:=fun _ _ _ _ _ _=>rfl
@[go_sem] theorem k43:Ah tbl 43 []:=fun _ _ _ _ _ _=>rfl
@[go_sem] theorem k44:Ah tbl 44 []:=fun _ _ _ _ _ _=>rfl
@[go_sem] theorem k45:Ah tbl 45 []:=fun _ _ _ _ _ _=>rfl
@[go_sem] theorem k46:Ah tbl 46 []:=fun _ _ _ _ _ _=>rfl
@[go_sem] theorem k47:Ah tbl 47 [true]:=fun _ _ _ _ _ _=>rfl
@[go_sem] theorem k48:Ah tbl 48 [true]:=fun _ _ _ _ _ _=>rfl
@[go_sem] theorem k49:Ah tbl 49 [true]:=fun _ _ _ _ _ _=>rfl
@[go_sem] theorem k50:Ah tbl 50 []:=fun _ _ _ _ _ _=>rfl
@[go_sem] theorem k51:Ah tbl 51 []:=fun _ _ _ _ _ _=>rfl
@[go_sem] theorem k52:Ah tbl 52 []:=fun _ _ _ _ _ _=>rfl
@[go_sem] theorem k53:Ah tbl 53 []:=fun _ _ _ _ _ _=>rfl
@[go_sem] theorem k54:Ah tbl 54 []:=fun _ _ _ _ _ _=>rfl
@[go_sem] theorem k55:Ah tbl 55 []:=fun _ _ _ _ _ _=>rfl
@[go_sem] theorem k56:Ah tbl 56 []:=fun _ _ _ _ _ _=>rfl
@[go_sem] theorem k57:Ah tbl 57 []:=fun _ _ _ _ _ _=>rfl
@[go_sem] theorem k58:Ah tbl 58 []:=fun _ _ _ _ _ _=>rfl
@[go_sem] theorem k59:Ah tbl 59 []:=fun _ _ _ _ _ _=>rfl
@[go_sem] theorem k60:Ah tbl 60 []:=fun _ _ _ _ _ _=>rfl
@[go_sem] theorem k61:Ah tbl 61 []:=fun _ _ _ _ _ _=>rfl
@[go_sem] theorem k62:Ah tbl 62 []:=fun _ _ _ _ _ _=>rfl
@[go_sem] theorem k63:Ah tbl 63 []:=fun _ _ _ _ _ _=>rfl
@[go_sem] theorem k64:WX tbl 64:=fun _ _ _ _ _ _=>rfl
@[go_sem] theorem k65:Ah tbl 65 []:=fun _ _ _ _ _ _=>rfl
@[go_sem] theorem k66:Ah tbl 66 []:=fun _ _ _ _ _ _=>rfl
@[go_sem] theorem k67:Ah tbl 67 []:=fun _ _ _ _ _ _=>rfl
@[go_sem] theorem k68:Ah tbl 68 []:=fun _ _ _ _ _ _=>rfl
@[go_sem] theorem k69:Ah tbl 69 []:=fun _ _ _ _ _ _=>rfl
@[go_sem] theorem k70:Ah tbl 70 []:=fun _ _ _ _ _ _=>rfl
@[go_sem] theorem k71:Ah tbl 71 []:=fun _ _ _ _ _ _=>rfl
@[go_sem] theorem k72:Ah tbl 72 []:=fun _ _ _ _ _ _=>rfl
@[go_sem] theorem k73:Ah tbl 73 []:=fun _ _ _ _ _ _=>rfl
@[go_sem] theorem k74:Ah tbl 74 []:=fun _ _ _ _ _ _=>rfl
@[go_sem] theorem k75:Ah tbl 75 []:=fun _ _ _ _ _ _=>rfl
@[go_sem] theorem k76:Ah tbl 76 []:=fun _ _ _ _ _ _=>rfl
@[go_sem] theorem k77:Ah tbl 77 []:=fun _ _ _ _ _ _=>rfl
@[go_sem] theorem k78:Ah tbl 78 []:=fun _ _ _ _ _ _=>rfl
@[go_sem] theorem k79:Ah tbl 79 []:=fun _ _ _ _ _ _=>rfl
@[go_sem] theorem k80:Ah tbl 80 []:=fun _ _ _ _ _ _=>rfl
@[go_sem] theorem k81:Ah tbl 81 []:=fun _ _ _ _ _ _=>rfl
@[go_sem] theorem k82:Ah tbl 82 []:=fun _ _ _ _ _ _=>rfl
@[go_sem] theorem k83:Ah tbl 83 []:=fun _ _ _ _ _ _=>rfl
@[go_sem] theorem k84:Ah tbl 84 []:=fun _ _ _ _ _ _=>rfl
@[go_sem] theorem k85:Ah tbl 85 []:=fun _ _ _ _ _ _=>rfl
@[go_sem] theorem k86:Ah tbl 86 []:=fun _ _ _ _ _ _=>rfl
@[go_sem] theorem k87:Ah tbl 87 [true]:=fun _ _ _ _ _ _=>rfl
@[go_sem] theorem k88:Ah tbl 88 []:=fun _ _ _ _ _ _=>rfl
@[go_sem] theorem k89:Ah tbl 89 [true]:=fun _ _ _ _ _ _=>rfl
@[go_sem] theorem k90:Ah tbl 90 [true]:=fun _ _ _ _ _ _=>rfl
@[go_sem] theorem k91:Ah tbl 91 [true]:=fun _ _ _ _ _ _=>rfl
@[go_sem] theorem k92:Ah tbl 92 [true]:=fun _ _ _ _ _ _=>rfl
@[go_sem] theorem k93:Ah tbl 93 []:=fun _ _ _ _ _ _=>rfl
@[go_sem] theorem k94:Ah tbl 94 []:=fun _ _ _ _ _ _=>rfl
@[go_sem] theorem k95:Ah tbl 95 []:=fun _ _ _ _ _ _=>rfl
@[go_sem] theorem k96:Ah tbl 96 []:=fun _ _ _ _ _ _=>rfl
@[go_sem] theorem k97:Ah tbl 97 []:=fun _ _ _ _ _ _=>rfl
@[go_sem] theorem k98:Ah tbl 98 []:=fun _ _ _ _ _ _=>rfl
@[go_sem] theorem k99:Ah tbl 99 []:=fun _ _ _ _ _ _=>rfl
@[go_sem] theorem k100:Ah tbl 100 []:=fun _ _ _ _ _ _=>rfl
@[go_sem] theorem k101:Ah tbl 101 []:=fun _ _ _ _ _ _=>rfl
@[go_sem] theorem k102:Ah tbl 102 []:=fun _ _ _ _ _ _=>rfl
@[go_sem] theorem k103:Ah tbl 103 []:=fun _ _ _ _ _ _=>rfl
@[go_sem] theorem k104:Ah tbl 104 []:=fun _ _ _ _ _ _=>rfl
@[go_sem] theorem k105:Ah tbl 105 []:=fun _ _ _ _ _ _=>rfl
@[go_sem] theorem k106:Ah tbl 106 []:=fun _ _ _ _ _ _=>rfl
@[go_sem] theorem k107:Ah tbl 107 []:=fun _ _ _ _ _ _=>rfl
@[go_sem] theorem k108:Ah tbl 108 []:=fun _ _ _ _ _ _=>rfl
@[go_sem] theorem k109:Ah tbl 109 []:=fun _ _ _ _ _ _=>rfl
@[go_sem] theorem k110:Ah tbl 110 []:=fun _ _ _ _ _ _=>rfl
@[go_sem] theorem k111:Ah tbl 111 []:=fun _ _ _ _ _ _=>rfl
@[go_sem] theorem k112:Pb tbl 112 17 184:=fun _ _ _ _=>rfl
@[go_sem] theorem k113:Pb tbl 113 4 32:=fun _ _ _ _=>rfl
@[go_sem] theorem k114:Ah tbl 114 []:=fun _ _ _ _ _ _=>rfl
@[go_sem] theorem k115:Ah tbl 115 []:=fun _ _ _ _ _ _=>rfl
@[go_sem] theorem k116:Ah tbl 116 []:=fun _ _ _ _ _ _=>rfl
@[go_sem] theorem k117:Ah tbl 117 []:=fun _ _ _ _ _ _=>rfl
@[go_sem] theorem k118:Ah tbl 118 []:=fun _ _ _ _ _ _=>rfl
@[go_sem] theorem k119:Ah tbl 119 []:=fun _ _ _ _ _ _=>rfl
@[go_sem] theorem k120:Ah tbl 120 []:=fun _ _ _ _ _ _=>rfl
@[go_sem] theorem k121:Ah tbl 121 []:=fun _ _ _ _ _ _=>rfl
@[go_sem] theorem k122:Ah tbl 122 []:=fun _ _ _ _ _ _=>rfl
@[go_sem] theorem k123:Ah tbl 123 []:=fun _ _ _ _ _ _=>rfl
@[go_sem] theorem k124:Ah tbl 124 []:=fun _ _ _ _ _ _=>rfl
@[go_sem] theorem k125:Ah tbl 125 []:=fun _ _ _ _ _ _=>rfl
@[go_sem] theorem k126:Ah tbl 126 []:=fun _ _ _ _ _ _=>rfl
@[go_sem] theorem k127:Ah tbl 127 []:=fun _ _ _ _ _ _=>rfl
@[go_sem] theorem k128:WX tbl 128:=fun _ _ _ _ _ _=>rfl
@[go_sem] theorem k129:Ah tbl 129 []:=fun _ _ _ _ _ _=>rfl
@[go_sem] theorem k130:Ah tbl 130 []:=fun _ _ _ _ _ _=>rfl
@[go_sem] theorem k131:Ah tbl 131 []:=fun _ _ _ _ _ _=>rfl
@[go_sem] theorem k132:Ah tbl 132 []:=fun _ _ _ _ _ _=>rfl
@[go_sem] theorem k133:Ah tbl 133 []:=fun _ _ _ _ _ _=>rfl
@[go_sem] theorem k134:Ah tbl 134 []:=fun _ _ _ _ _ _=>rfl
@[go_sem] theorem k135:Ah tbl 135 []:=fun _ _ _ _ _ _=>rfl
@[go_sem] theorem k136:Ah tbl 136 []:=fun _ _ _ _ _ _=>rfl
@[go_sem] theorem k137:Ah tbl 137 []:=fun _ _ _ _ _ _=>rfl
@[go_sem] theorem k138:Ah tbl 138 []:=fun _ _ _ _ _ _=>rfl
@[go_sem] theorem k139:Ah tbl 139 []:=fun _ _ _ _ _ _=>rfl
@[go_sem] theorem k140:Ah tbl 140 []:=fun _ _ _ _ _ _=>rfl
@[go_sem] theorem k141:Ah tbl 141 []:=fun _ _ _ _ _ _=>rfl
@[go_sem] theorem k142:Ah tbl 142 []:=fun _ _ _ _ _ _=>rfl
@[go_sem] theorem k143:Ah tbl 143 []:=fun _ _ _ _ _ _=>rfl
@[go_sem] theorem k144:Ah tbl 144 []:=fun _ _ _ _ _ _=>rfl
@[go_sem] theorem k145:Ah tbl 145 []:=fun _ _ _ _ _ _=>rfl
@[go_sem] theorem k146:Ah tbl 146 []:=fun _ _ _ _ _ _=>rfl
@[go_sem] theorem k147:Ah tbl 147 []:=fun _ _ _ _ _ _=>rfl
@[go_sem] theorem k148:Ah tbl 148 []:=fun _ _ _ _ _ _=>rfl
@[go_sem] theorem k149:Ah tbl 149 []:=fun _ _ _ _ _ _=>rfl
@[go_sem] theorem k150:Ah tbl 150 []:=fun _ _ _ _ _ _=>rfl
@[go_sem] theorem k151:Ah tbl 151 []:=fun _ _ _ _ _ _=>rfl
@[go_sem] theorem k152:Ah tbl 152 []:=fun _ _ _ _ _ _=>rfl
@[go_sem] theorem k153:Ah tbl 153 []:=fun _ _ _ _ _ _=>rfl
@[go_sem] theorem k154:Ah tbl 154 []:=fun _ _ _ _ _ _=>rfl
@[go_sem] theorem k155:Ah tbl 155 []:=fun _ _ _ _ _ _=>rfl
@[go_sem] theorem k156:Ah tbl 156 []:=fun _ _ _ _ _ _=>rfl
@[go_sem] theorem k157:Ah tbl 157 []:=fun _ _ _ _ _ _=>rfl
@[go_sem] theorem k158:Ah tbl 158 []:=fun _ _ _ _ _ _=>rfl
@[go_sem] theorem k159:Ah tbl 159 []:=fun _ _ _ _ _ _=>rfl
@[go_sem] theorem k160:Ah tbl 160 []:=fun _ _ _ _ _ _=>rfl
@[go_sem] theorem k161:Ah tbl 161 []:=fun _ _ _ _ _ _=>rfl
@[go_sem] theorem k162:Ah tbl 162 []:=fun _ _ _ _ _ _=>rfl
@[go_sem] theorem k163:Pb tbl 163 3 24:=fun _ _ _ _=>rfl
@[go_sem] theorem k164:Pb tbl 164 4 32:=fun _ _ _ _=>rfl
@[go_sem] theorem k165:Pb tbl 165 3 24:=fun _ _ _ _=>rfl
@[go_sem] theorem k166:Pb tbl 166 3 24:=fun _ _ _ _=>rfl
@[go_sem] theorem k167:Ah tbl 167 []:=fun _ _ _ _ _ _=>rfl
@[go_sem] theorem k168:Ah tbl 168 []:=fun _ _ _ _ _ _=>rfl
@[go_sem] theorem k169:Ah tbl 169 []:=fun _ _ _ _ _ _=>rfl
@[go_sem] theorem k170:Ah tbl 170 []:=fun _ _ _ _ _ _=>rfl
@[go_sem] theorem k171:Ah tbl 171 []:=fun _ _ _ _ _ _=>rfl
@[go_sem] theorem k172:Ah tbl 172 []:=fun _ _ _ _ _ _=>rfl
@[go_sem] theorem k173:Ah tbl 173 []:=fun _ _ _ _ _ _=>rfl
@[go_sem] theorem k174:Ah tbl 174 []:=fun _ _ _ _ _ _=>rfl
@[go_sem] theorem k175:WX tbl 175:=fun _ _ _ _ _ _=>rfl
@[go_sem] theorem k176:Ah tbl 176 []:=fun _ _ _ _ _ _=>rfl
@[go_sem] theorem k177:Ah tbl 177 []:=fun _ _ _ _ _ _=>rfl
@[go_sem] theorem k178:Ah tbl 178 []:=fun _ _ _ _ _ _=>rfl
@[go_sem] theorem k179:Ah tbl 179 []:=fun _ _ _ _ _ _=>rfl
@[go_sem] theorem k180:Ah tbl 180 []:=fun _ _ _ _ _ _=>rfl
@[go_sem] theorem k181:Ah tbl 181 []:=fun _ _ _ _ _ _=>rfl
@[go_sem] theorem k182:Ah tbl 182 []:=fun _ _ _ _ _ _=>rfl
@[go_sem] theorem k183:Ah tbl 183 []:=fun _ _ _ _ _ _=>rfl
@[go_sem] theorem k184:Ah tbl 184 []:=fun _ _ _ _ _ _=>rfl
@[go_sem] theorem k185:Ah tbl 185 []:=fun _ _ _ _ _ _=>rfl
@[go_sem] theorem k186:Ah tbl 186 []:=fun _ _ _ _ _ _=>rfl
@[go_sem] theorem k187:Ah tbl 187 []:=fun _ _ _ _ _ _=>rfl
@[go_sem] theorem k188:Ah tbl 188 []:=fun _ _ _ _ _ _=>rfl
@[go_sem] theorem k189:Ah tbl 189 []:=fun _ _ _ _ _ _=>rfl
@[go_sem] theorem k190:Ah tbl 190 []:=fun _ _ _ _ _ _=>rfl
@[go_sem] theorem k191:Ah tbl 191 []:=fun _ _ _ _ _ _=>rfl
@[go_sem] theorem k192:Ah tbl 192 []:=fun _ _ _ _ _ _=>rfl
@[go_sem] theorem k193:Ah tbl 193 []:=fun _ _ _ _ _ _=>rfl
@[go_sem] theorem k194:Ah tbl 194 []:=fun _ _ _ _ _ _=>rfl
@[go_sem] theorem k195:Ah tbl 195 []:=fun _ _ _ _ _ _=>rfl
@[go_sem] theorem k196:Ah tbl 196 []:=fun _ _ _ _ _ _=>rfl
@[go_sem] theorem k197:Ah tbl 197 []:=fun _ _ _ _ _ _=>rfl
@[go_sem] theorem k198:Ah tbl 198 []:=fun _ _ _ _ _ _=>rfl
@[go_sem] theorem k199:Ah tbl 199 []:=fun _ _ _ _ _ _=>rfl
@[go_sem] theorem k200:Ah tbl 200 []:=fun _ _ _ _ _ _=>rfl
@[go_sem] theorem k201:Ah tbl 201 []:=fun _ _ _ _ _ _=>rfl
@[go_sem] theorem k202:a0c tbl 202 3 24:=fun _ _ _ _ _ _=>rfl
@[go_sem] theorem k203:Ah tbl 203 []:=fun _ _ _ _ _ _=>rfl
@[go_sem] theorem k204:WX tbl 204:=fun _ _ _ _ _ _=>rfl
@[go_sem] theorem k205:Ah tbl 205 []:=fun _ _ _ _ _ _=>rfl
@[go_sem] theorem k206:Ah tbl 206 []:=fun _ _ _ _ _ _=>rfl
@[go_sem] theorem k207:Ah tbl 207 []:=fun _ _ _ _ _ _=>rfl
@[go_sem] theorem k208:Ah tbl 208 []:=fun _ _ _ _ _ _=>rfl
@[go_sem] theorem k209:Ah tbl 209 []:=fun _ _ _ _ _ _=>rfl
@[go_sem] theorem k210:Ah tbl 210 []:=fun _ _ _ _ _ _=>rfl
@[go_sem] theorem k211:Ah tbl 211 []:=fun _ _ _ _ _ _=>rfl
@[go_sem] theorem k213:Ah tbl 213 []:=fun _ _ _ _ _ _=>rfl
@[go_sem] theorem k214:Ah tbl 214 []:=fun _ _ _ _ _ _=>rfl
@[go_sem] theorem k215:Ah tbl 215 []:=fun _ _ _ _ _ _=>rfl
@[go_sem] theorem k216:Ah tbl 216 []:=fun _ _ _ _ _ _=>rfl
section
variable (O:Orc) (P:FuncId→List V→Option V) (k:Nat) (s:St) (q:Out→St→Option Ans) (Q:V→Hp→Nat→Prop)
@[go_sem ↓] theorem v7_1:Fin (evC ctx O P k kT s q) Q=GU kT ctx P s q Q ⟨⟩ ⟨⟩:=AO _ _ _ _ _ _ _ (by kernel_rfl)
@[go_sem ↓] theorem v7_2:Fin (evC ctx O P k kS s q) Q=GU kS ctx P s q Q ⟨⟩ ⟨⟩:=AO _ _ _ _ _ _ _ (by kernel_rfl)
@[go_sem ↓] theorem v8_1:Fin (evC ctx O P k kR s q) Q=GU kR ctx P s q Q ⟨⟩ ⟨⟩:=AO _ _ _ _ _ _ _ (by kernel_rfl)
@[go_sem ↓] theorem v14_1:Fin (evC ctx O P k WQ s q) Q=GU WQ ctx P s q Q ⟨⟩ ⟨⟩:=AO _ _ _ _ _ _ _ (by kernel_rfl)
@[go_sem ↓] theorem v14_2:Fin (evC ctx O P k WP s q) Q=GU WP ctx P s q Q ⟨⟩ ⟨⟩:=AO _ _ _ _ _ _ _ (by kernel_rfl)
@[go_sem ↓] theorem v15_1:Fin (evC ctx O P k WO s q) Q=GU WO ctx P s q Q ⟨⟩ ⟨⟩:=AO _ _ _ _ _ _ _ (by kernel_rfl)
@[go_sem ↓] theorem v18_1:Fin (evC ctx O P k WN s q) Q=GU WN ctx P s q Q ⟨⟩ ⟨⟩:=AO _ _ _ _ _ _ _ (by kernel_rfl)
@[go_sem ↓] theorem v20_1:Fin (evC ctx O P k WM s q) Q=GU WM ctx P s q Q ⟨⟩ ⟨⟩:=AO _ _ _ _ _ _ _ (by kernel_rfl)
@[go_sem ↓] theorem v21_1:Fin (evC ctx O P k WL s q) Q=GU WL ctx P s q Q ⟨⟩ ⟨⟩:=AO _ _ _ _ _ _ _ (by kernel_rfl)
@[go_sem ↓] theorem v24_1:Fin (evC ctx O P k WK s q) Q=GU WK ctx P s q Q ⟨⟩ ⟨⟩:=AO _ _ _ _ _ _ _ (by kernel_rfl)
@[go_sem ↓] theorem v25_1:Fin (evC ctx O P k WJ s q) Q=GU WJ ctx P s q Q ⟨⟩ ⟨⟩:=AO _ _ _ _ _ _ _ (by kernel_rfl)
@[go_sem ↓] theorem v27_1:Fin (evC ctx O P k WI s q) Q=GU WI ctx P s q Q ⟨⟩ ⟨⟩:=AO _ _ _ _ _ _ _ (by kernel_rfl)
@[go_sem ↓] theorem v27_2:Fin (evC ctx O P k WH s q) Q=GU WH ctx P s q Q ⟨⟩ ⟨⟩:=AO _ _ _ _ _ _ _ (by kernel_rfl)
@[go_sem ↓] theorem v29_1:Fin (evC ctx O P k WG s q) Q=GU WG ctx P s q Q ⟨⟩ ⟨⟩:=AO _ _ _ _ _ _ _ (by kernel_rfl)
@[go_sem ↓] theorem v32_1:Fin (evC ctx O P k WF s q) Q=GU WF ctx P s q Q ⟨⟩ ⟨⟩:=AO _ _ _ _ _ _ _ (by kernel_rfl)
@[go_sem ↓] theorem v40_1:Fin (evC ctx O P k WE s q) Q=GU WE ctx P s q Q ⟨⟩ ⟨⟩:=AO _ _ _ _ _ _ _ (by kernel_rfl)
@[go_sem ↓] theorem v41_1:Fin (evC ctx O P k WD s q) Q=GU WD ctx P s q Q ⟨⟩ ⟨⟩:=AO _ _ _ _ _ _ _ (by kernel_rfl)
@[go_sem ↓] theorem v42_1:Fin (evC ctx O P k WC s q) Q=GU WC ctx P s q Q ⟨⟩ ⟨⟩:=AO _ _ _ _ _ _ _ (by kernel_rfl)
@[go_sem ↓] theorem v42_2:Fin (evC ctx O P k WB s q) Q=GU WB ctx P s q Q ⟨⟩ ⟨⟩:=AO _ _ _ _ _ _ _ (by kernel_rfl)
@[go_sem ↓] theorem v43_1:Fin (evC ctx O P k WA s q) Q=GU WA ctx P s q Q ⟨⟩ ⟨⟩:=AO _ _ _ _ _ _ _ (by kernel_rfl)
@[go_sem ↓] theorem v45_1:Fin (evC ctx O P k Wz s q) Q=GU Wz ctx P s q Q ⟨⟩ ⟨⟩:=AO _ _ _ _ _ _ _ (by kernel_rfl)
@[go_sem ↓] theorem v45_2:Fin (evC ctx O P k Wy s q) Q=GU Wy ctx P s q Q ⟨⟩ ⟨⟩:=AO _ _ _ _ _ _ _ (by kernel_rfl)
@[go_sem ↓] theorem v46_1:Fin (evC ctx O P k Wx s q) Q=GU Wx ctx P s q Q ⟨⟩ ⟨⟩:=AO _ _ _ _ _ _ _ (by kernel_rfl)
@[go_sem ↓] theorem v46_2:Fin (evC ctx O P k Ww s q) Q=GU Ww ctx P s q Q ⟨⟩ ⟨⟩:=AO _ _ _ _ _ _ _ (by kernel_rfl)
@[go_sem ↓] theorem v51_1:Fin (evC ctx O P k Wv s q) Q=GU Wv ctx P s q Q ⟨⟩ ⟨⟩:=AO _ _ _ _ _ _ _ (by kernel_rfl)
@[go_sem ↓] theorem v52_1:Fin (evC ctx O P k Wu s q) Q=GU Wu ctx P s q Q ⟨⟩ ⟨⟩:=AO _ _ _ _ _ _ _ (by kernel_rfl)
@[go_sem ↓] theorem v53_1:Fin (evC ctx O P k Wt s q) Q=GU Wt ctx P s q Q ⟨⟩ ⟨⟩:=AO _ _ _ _ _ _ _ (by kernel_rfl)
@[go_sem ↓] theorem v54_1:Fin (evC ctx O P k Ws s q) Q=GU Ws ctx P s q Q ⟨⟩ ⟨⟩:=AO _ _ _ _ _ _ _ (by kernel_rfl)
@[go_sem ↓] theorem v60_1:Fin (evC ctx O P k Wr s q) Q=GU Wr ctx P s q Q ⟨⟩ ⟨⟩:=AO _ _ _ _ _ _ _ (by kernel_rfl)
@[go_sem ↓] theorem v60_2:Fin (evC ctx O P k Wq s q) Q=GU Wq ctx P s q Q ⟨⟩ ⟨⟩:=AO _ _ _ _ _ _ _ (by kernel_rfl)
@[go_sem ↓] theorem v63_1:Fin (evC ctx O P k Wp s q) Q=GU Wp ctx P s q Q ⟨⟩ ⟨⟩:=AO _ _ _ _ _ _ _ (by kernel_rfl)
@[go_sem ↓] theorem v63_2:Fin (evC ctx O P k Wo s q) Q=GU Wo ctx P s q Q ⟨⟩ ⟨⟩:=AO _ _ _ _ _ _ _ (by kernel_rfl)
@[go_sem ↓] theorem v65_1:Fin (evC ctx O P k Wn s q) Q=GU Wn ctx P s q Q ⟨⟩ ⟨⟩:=AO _ _ _ _ _ _ _ (by kernel_rfl)
@[go_sem ↓] theorem v65_2:Fin (evC ctx O P k Wm s q) Q=GU Wm ctx P s q Q ⟨⟩ ⟨⟩:=AO _ _ _ _ _ _ _ (by kernel_rfl)
@[go_sem ↓] theorem v66_1:Fin (evC ctx O P k Wl s q) Q=GU Wl ctx P s q Q ⟨⟩ ⟨⟩:=AO _ _ _ _ _ _ _ (by kernel_rfl)
@[go_sem ↓] theorem v66_2:Fin (evC ctx O P k Wk s q) Q=GU Wk ctx P s q Q ⟨⟩ ⟨⟩:=AO _ _ _ _ _ _ _ (by kernel_rfl)
@[go_sem ↓] theorem v66_3:Fin (evC ctx O P k Wj s q) Q=GU Wj ctx P s q Q ⟨⟩ ⟨⟩:=AO _ _ _ _ _ _ _ (by kernel_rfl)
@[go_sem ↓] theorem v66_4:Fin (evC ctx O P k Wi s q) Q=GU Wi ctx P s q Q ⟨⟩ ⟨⟩:=AO _ _ _ _ _ _ _ (by kernel_rfl)
@[go_sem ↓] theorem v66_5:Fin (evC ctx O P k Wh s q) Q=GU Wh ctx P s q Q ⟨⟩ ⟨⟩:=AO _ _ _ _ _ _ _ (by kernel_rfl)
@[go_sem ↓] theorem v67_1:Fin (evC ctx O P k Wg s q) Q=GU Wg ctx P s q Q ⟨⟩ ⟨⟩:=AO _ _ _ _ _ _ _ (by kernel_rfl)
@[go_sem ↓] theorem v68_1:Fin (evC ctx O P k Wf s q) Q=GU Wf ctx P s q Q ⟨⟩ ⟨⟩:=AO _ _ _ _ _ _ _ (by kernel_rfl)
@[go_sem ↓] theorem v69_1:Fin (evC ctx O P k We s q) Q=GU We ctx P s q Q ⟨⟩ ⟨⟩:=AO _ _ _ _ _ _ _ (by kernel_rfl)
@[go_sem ↓] theorem v69_2:Fin (evC ctx O P k Wd s q) Q=GU Wd ctx P s q Q ⟨⟩ ⟨⟩:=AO _ _ _ _ _ _ _ (by kernel_rfl)
@[go_sem ↓] theorem v69_3:Fin (evC ctx O P k Wc s q) Q=GU Wc ctx P s q Q ⟨⟩ ⟨⟩:=AO _ _ _ _ _ _ _ (by kernel_rfl)
@[go_sem ↓] theorem v69_4:Fin (evC ctx O P k Wb s q) Q=GU Wb ctx P s q Q ⟨⟩ ⟨⟩:=AO _ _ _ _ _ _ _ (by kernel_rfl)
@[go_sem ↓] theorem v69_5:Fin (evC ctx O P k Wa s q) Q=GU Wa ctx P s q Q ⟨⟩ ⟨⟩:=AO _ _ _ _ _ _ _ (by kernel_rfl)
@[go_sem ↓] theorem v70_1:Fin (evC ctx O P k VZ s q) Q=GU VZ ctx P s q Q ⟨⟩ ⟨⟩:=AO _ _ _ _ _ _ _ (by kernel_rfl)
@[go_sem ↓] theorem v74_1:Fin (evC ctx O P k VY s q) Q=GU VY ctx P s q Q ⟨⟩ ⟨⟩:=AO _ _ _ _ _ _ _ (by kernel_rfl)
@[go_sem ↓] theorem v75_1:Fin (evC ctx O P k VX s q) Q=GU VX ctx P s q Q ⟨⟩ ⟨⟩:=AO _ _ _ _ _ _ _ (by kernel_rfl)
@[go_sem ↓] theorem v76_1:Fin (evC ctx O P k VW s q) Q=GU VW ctx P s q Q ⟨⟩ ⟨⟩:=AO _ _ _ _ _ _ _ (by kernel_rfl)
@[go_sem ↓] theorem v76_2:Fin (evC ctx O P k VV s q) Q=GU VV ctx P s q Q ⟨⟩ ⟨⟩:=AO _ _ _ _ _ _ _ (by kernel_rfl)
@[go_sem ↓] theorem v77_1:Fin (evC ctx O P k VU s q) Q=GU VU ctx P s q Q ⟨⟩ ⟨⟩:=AO _ _ _ _ _ _ _ (by kernel_rfl)
@[go_sem ↓] theorem v77_2:Fin (evC ctx O P k VT s q) Q=GU VT ctx P s q Q ⟨⟩ ⟨⟩:=AO _ _ _ _ _ _ _ (by kernel_rfl)
@[go_sem ↓] theorem v78_1:Fin (evC ctx O P k VS s q) Q=GU VS ctx P s q Q ⟨⟩ ⟨⟩:=AO _ _ _ _ _ _ _ (by kernel_rfl)
@[go_sem ↓] theorem v78_2:Fin (evC ctx O P k VR s q) Q=GU VR ctx P s q Q ⟨⟩ ⟨⟩:=AO _ _ _ _ _ _ _ (by kernel_rfl)
@[go_sem ↓] theorem v78_3:Fin (evC ctx O P k VQ s q) Q=GU VQ ctx P s q Q ⟨⟩ ⟨⟩:=AO _ _ _ _ _ _ _ (by kernel_rfl)
@[go_sem ↓] theorem v81_1:Fin (evC ctx O P k VP s q) Q=GU VP ctx P s q Q ⟨⟩ ⟨⟩:=AO _ _ _ _ _ _ _ (by kernel_rfl)
@[go_sem ↓] theorem v83_1:Fin (evC ctx O P k VO s q) Q=GU VO ctx P s q Q ⟨⟩ ⟨⟩:=AO _ _ _ _ _ _ _ (by kernel_rfl)
@[go_sem ↓] theorem v83_2:Fin (evC ctx O P k VN s q) Q=GU VN ctx P s q Q ⟨⟩ ⟨⟩:=AO _ _ _ _ _ _ _ (by kernel_rfl)
@[go_sem ↓] theorem v84_1:Fin (evC ctx O P k VM s q) Q=GU VM ctx P s q Q ⟨⟩ ⟨⟩:=AO _ _ _ _ _ _ _ (by kernel_rfl)
@[go_sem ↓] theorem v85_1:Fin (evC ctx O P k VL s q) Q=GU VL ctx P s q Q ⟨⟩ ⟨⟩:=AO _ _ _ _ _ _ _ (by kernel_rfl)
@[go_sem ↓] theorem v85_2:Fin (evC ctx O P k VK s q) Q=GU VK ctx P s q Q ⟨⟩ ⟨⟩:=AO _ _ _ _ _ _ _ (by kernel_rfl)
@[go_sem ↓] theorem v87_1:Fin (evC ctx O P k VJ s q) Q=GU VJ ctx P s q Q ⟨⟩ ⟨⟩:=AO _ _ _ _ _ _ _ (by kernel_rfl)
@[go_sem ↓] theorem v88_1:Fin (evC ctx O P k VI s q) Q=GU VI ctx P s q Q ⟨⟩ ⟨⟩:=AO _ _ _ _ _ _ _ (by kernel_rfl)
@[go_sem ↓] theorem v93_1:Fin (evC ctx O P k VH s q) Q=GU VH ctx P s q Q ⟨⟩ ⟨⟩:=AO _ _ _ _ _ _ _ (by kernel_rfl)
@[go_sem ↓] theorem v94_1:Fin (evC ctx O P k VG s q) Q=GU VG ctx P s q Q ⟨⟩ ⟨⟩:=AO _ _ _ _ _ _ _ (by kernel_rfl)
@[go_sem ↓] theorem v98_1:Fin (evC ctx O P k VF s q) Q=GU VF ctx P s q Q ⟨⟩ ⟨⟩:=AO _ _ _ _ _ _ _ (by kernel_rfl)
@[go_sem ↓] theorem v98_2:Fin (evC ctx O P k VE s q) Q=GU VE ctx P s q Q ⟨⟩ ⟨⟩:=AO _ _ _ _ _ _ _ (by kernel_rfl)
@[go_sem ↓] theorem v100_1:Fin (evC ctx O P k QL s q) Q=GU QL ctx P s q Q ⟨⟩ ⟨⟩:=AO _ _ _ _ _ _ _ (by kernel_rfl)
@[go_sem ↓] theorem v100_2:Fin (evC ctx O P k QK s q) Q=GU QK ctx P s q Q ⟨⟩ ⟨⟩:=AO _ _ _ _ _ _ _ (by kernel_rfl)
@[go_sem ↓] theorem v101_1:Fin (evC ctx O P k QJ s q) Q=GU QJ ctx P s q Q ⟨⟩ ⟨⟩:=AO _ _ _ _ _ _ _ (by kernel_rfl)
@[go_sem ↓] theorem v114_1:Fin (evC ctx O P k QI s q) Q=GU QI ctx P s q Q ⟨⟩ ⟨⟩:=AO _ _ _ _ _ _ _ (by kernel_rfl)
@[go_sem ↓] theorem v115_1:Fin (evC ctx O P k QH s q) Q=GU QH ctx P s q Q ⟨⟩ ⟨⟩:=AO _ _ _ _ _ _ _ (by kernel_rfl)
@[go_sem ↓] theorem v117_1:Fin (evC ctx O P k QG s q) Q=GU QG ctx P s q Q ⟨⟩ ⟨⟩:=AO _ _ _ _ _ _ _ (by kernel_rfl)
@[go_sem ↓] theorem v117_2:Fin (evC ctx O P k QF s q) Q=GU QF ctx P s q Q ⟨⟩ ⟨⟩:=AO _ _ _ _ _ _ _ (by kernel_rfl)
@[go_sem ↓] theorem v117_3:Fin (evC ctx O P k QE s q) Q=GU QE ctx P s q Q ⟨⟩ ⟨⟩:=AO _ _ _ _ _ _ _ (by kernel_rfl)
@[go_sem ↓] theorem v119_1:Fin (evC ctx O P k QD s q) Q=GU QD ctx P s q Q ⟨⟩ ⟨⟩:=AO _ _ _ _ _ _ _ (by kernel_rfl)
@[go_sem ↓] theorem v119_2:Fin (evC ctx O P k QC s q) Q=GU QC ctx P s q Q ⟨⟩ ⟨⟩:=AO _ _ _ _ _ _ _ (by kernel_rfl)
@[go_sem ↓] theorem v119_3:Fin (evC ctx O P k QB s q) Q=GU QB ctx P s q Q ⟨⟩ ⟨⟩:=AO _ _ _ _ _ _ _ (by kernel_rfl)
@[go_sem ↓] theorem v119_4:Fin (evC ctx O P k QA s q) Q=GU QA ctx P s q Q ⟨⟩ ⟨⟩:=AO _ _ _ _ _ _ _ (by kernel_rfl)
@[go_sem ↓] theorem v123_1:Fin (evC ctx O P k Qz s q) Q=GU Qz ctx P s q Q ⟨⟩ ⟨⟩:=AO _ _ _ _ _ _ _ (by kernel_rfl)
@[go_sem ↓] theorem v125_1:Fin (evC ctx O P k Qy s q) Q=GU Qy ctx P s q Q ⟨⟩ ⟨⟩:=AO _ _ _ _ _ _ _ (by kernel_rfl)
@[go_sem ↓] theorem v127_1:Fin (evC ctx O P k Qx s q) Q=GU Qx ctx P s q Q ⟨⟩ ⟨⟩:=AO _ _ _ _ _ _ _ (by kernel_rfl)
@[go_sem ↓] theorem v128_1:Fin (evC ctx O P k Qw s q) Q=GU Qw ctx P s q Q ⟨⟩ ⟨⟩:=AO _ _ _ _ _ _ _ (by kernel_rfl)
@[go_sem ↓] theorem v129_1:Fin (evC ctx O P k Qv s q) Q=GU Qv ctx P s q Q ⟨⟩ ⟨⟩:=AO _ _ _ _ _ _ _ (by kernel_rfl)
@[go_sem ↓] theorem v132_1:Fin (evC ctx O P k Qu s q) Q=GU Qu ctx P s q Q ⟨⟩ ⟨⟩:=AO _ _ _ _ _ _ _ (by kernel_rfl)
@[go_sem ↓] theorem v133_1:Fin (evC ctx O P k Qt s q) Q=GU Qt ctx P s q Q ⟨⟩ ⟨⟩:=AO _ _ _ _ _ _ _ (by kernel_rfl)
@[go_sem ↓] theorem v135_1:Fin (evC ctx O P k Qs s q) Q=GU Qs ctx P s q Q ⟨⟩ ⟨⟩:=AO _ _ _ _ _ _ _ (by kernel_rfl)
@[go_sem ↓] theorem v138_1:Fin (evC ctx O P k Qr s q) Q=GU Qr ctx P s q Q ⟨⟩ ⟨⟩:=AO _ _ _ _ _ _ _ (by kernel_rfl)
@[go_sem ↓] theorem v150_1:Fin (evC ctx O P k Qq s q) Q=GU Qq ctx P s q Q ⟨⟩ ⟨⟩:=AO _ _ _ _ _ _ _ (by kernel_rfl)
@[go_sem ↓] theorem v151_1:Fin (evC ctx O P k Qp s q) Q=GU Qp ctx P s q Q ⟨⟩ ⟨⟩:=AO _ _ _ _ _ _ _ (by kernel_rfl)
@[go_sem ↓] theorem v168_1:Fin (evC ctx O P k Qo s q) Q=GU Qo ctx P s q Q ⟨⟩ ⟨⟩:=AO _ _ _ _ _ _ _ (by kernel_rfl)
@[go_sem ↓] theorem v169_1:Fin (evC ctx O P k Qn s q) Q=GU Qn ctx P s q Q ⟨⟩ ⟨⟩:=AO _ _ _ _ _ _ _ (by kernel_rfl)
@[go_sem ↓] theorem v170_1:Fin (evC ctx O P k Qm s q) Q=GU Qm ctx P s q Q ⟨⟩ ⟨⟩:=AO _ _ _ _ _ _ _ (by kernel_rfl)
@[go_sem ↓] theorem v170_2:Fin (evC ctx O P k Ql s q) Q=GU Ql ctx P s q Q ⟨⟩ ⟨⟩:=AO _ _ _ _ _ _ _ (by kernel_rfl)
@[go_sem ↓] theorem v170_3:Fin (evC ctx O P k Qk s q) Q=GU Qk ctx P s q Q ⟨⟩ ⟨⟩:=AO _ _ _ _ _ _ _ (by kernel_rfl)
@[go_sem ↓] theorem v170_4:Fin (evC ctx O P k Qj s q) Q=GU Qj ctx P s q Q ⟨⟩ ⟨⟩:=AO _ _ _ _ _ _ _ (by kernel_rfl)
@[go_sem ↓] theorem v170_5:Fin (evC ctx O P k Qi s q) Q=GU Qi ctx P s q Q ⟨⟩ ⟨⟩:=AO _ _ _ _ _ _ _ (by kernel_rfl)
@[go_sem ↓] theorem v170_6:Fin (evC ctx O P k Qh s q) Q=GU Qh ctx P s q Q ⟨⟩ ⟨⟩:=AO _ _ _ _ _ _ _ (by kernel_rfl)
@[go_sem ↓] theorem v173_1:Fin (evC ctx O P k Qg s q) Q=GU Qg ctx P s q Q ⟨⟩ ⟨⟩:=AO _ _ _ _ _ _ _ (by kernel_rfl)
@[go_sem ↓] theorem v176_1:Fin (evC ctx O P k Qf s q) Q=GU Qf ctx P s q Q ⟨⟩ ⟨⟩:=AO _ _ _ _ _ _ _ (by kernel_rfl)
@[go_sem ↓] theorem v201_1:Fin (evC ctx O P k Qe s q) Q=GU Qe ctx P s q Q ⟨⟩ ⟨⟩:=AO _ _ _ _ _ _ _ (by kernel_rfl)
@[go_sem ↓] theorem v201_2:Fin (evC ctx O P k Qd s q) Q=GU Qd ctx P s q Q ⟨⟩ ⟨⟩:=AO _ _ _ _ _ _ _ (by kernel_rfl)
@[go_sem ↓] theorem v202_1:Fin (evC ctx O P k Qc s q) Q=GU Qc ctx P s q Q ⟨⟩ ⟨⟩:=AO _ _ _ _ _ _ _ (by kernel_rfl)
@[go_sem ↓] theorem v202_2:Fin (evC ctx O P k Qb s q) Q=GU Qb ctx P s q Q ⟨⟩ ⟨⟩:=AO _ _ _ _ _ _ _ (by kernel_rfl)
@[go_sem ↓] theorem v206_1:Fin (evC ctx O P k Qa s q) Q=GU Qa ctx P s q Q ⟨⟩ ⟨⟩:=AO _ _ _ _ _ _ _ (by kernel_rfl)
@[go_sem ↓] theorem v214_1:Fin (evC ctx O P k PZ s q) Q=GU PZ ctx P s q Q ⟨⟩ ⟨⟩:=AO _ _ _ _ _ _ _ (by kernel_rfl)
@[go_sem ↓] theorem v216_1:Fin (evC ctx O P k PY s q) Q=GU PY ctx P s q Q ⟨⟩ ⟨⟩:=AO _ _ _ _ _ _ _ (by kernel_rfl)
end
attribute [go_sem] kT kS kR WQ WP WO WN WM WL WK WJ WI WH WG WF WE WD WC WB WA Wz Wy Wx Ww Wv Wu Wt Ws Wr Wq Wp Wo Wn Wm Wl Wk Wj Wi Wh Wg Wf We Wd Wc Wb Wa VZ VY VX VW VV VU VT VS VR VQ VP VO VN VM VL VK VJ VI VH VG VF VE QL QK QJ QI QH QG QF QE QD QC QB QA Qz Qy Qx Qw Qv Qu Qt Qs Qr Qq Qp Qo Qn Qm Ql Qk Qj Qi Qh Qg Qf Qe Qd Qc Qb Qa PZ PY
end Ve
