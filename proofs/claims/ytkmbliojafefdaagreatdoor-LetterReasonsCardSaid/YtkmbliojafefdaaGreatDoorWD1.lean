import Derived.Test.YtkmbliojafefdaaGreatDoorWD0
import Derived.Test.YtkmbliojafefdaaGreatDoorProg
import Derived.Lib.LazyBuf
import Derived.Scope
import Derived.ControlIn
import Derived.Laws.StructEq
import Derived.Lib.Bytealg
import Derived.WalkKit
import Derived.ProofKit
import Derived.OpenShut
import Derived.Carry
import Derived.ChangeOld
import Derived.ChangeSlices

/- DERIVED by program: what the tables of this seat say, as instances of the layer's classes. -/
set_option autoImplicit false
namespace Go.Sx
open Go.Proofs
instance : IntT Tryz.prog 2 .i64 := ⟨Tryz.underlying2⟩
instance : KeyT Tryz.prog 2 Int := keyT_int Tryz.underlying2
instance : HasTy Tryz.prog 2 Int := hasTy_cell Tryz.sizeOf2 Tryz.isAgg2 rfl (fun _ => rfl)
instance : IntT Tryz.prog 3 .i64 := ⟨Tryz.underlying3⟩
instance : KeyT Tryz.prog 3 Int := keyT_int Tryz.underlying3
instance : HasTy Tryz.prog 3 Int := hasTy_cell Tryz.sizeOf3 Tryz.isAgg3 rfl (fun _ => rfl)
instance : HasTy Tryz.prog 4 Bool := hasTy_cell Tryz.sizeOf4 Tryz.isAgg4 rfl (fun _ => rfl)
instance : IntT Tryz.prog 5 .u8 := ⟨Tryz.underlying5⟩
instance : IntT Tryz.prog 6 .u8 := ⟨Tryz.underlying6⟩
instance : KeyT Tryz.prog 9 ByteArray := keyT_string Tryz.underlying9
instance : HasTy Tryz.prog 9 ByteArray := hasTy_cell Tryz.sizeOf9 Tryz.isAgg9 rfl (fun _ => rfl)
instance : KeyT Tryz.prog 10 ByteArray := keyT_string Tryz.underlying10
instance : HasTy Tryz.prog 10 ByteArray := hasTy_cell Tryz.sizeOf10 Tryz.isAgg10 rfl (fun _ => rfl)
instance : KeyT Tryz.prog 11 ByteArray := keyT_string Tryz.underlying11
instance : HasTy Tryz.prog 11 ByteArray := hasTy_cell Tryz.sizeOf11 Tryz.isAgg11 rfl (fun _ => rfl)
instance : IntT Tryz.prog 12 .u64 := ⟨Tryz.underlying12⟩
instance : IntT Tryz.prog 21 .i32 := ⟨Tryz.underlying21⟩
instance : SlT Tryz.prog 22 68 := ⟨Tryz.underlying22⟩
instance : HasTy Tryz.prog 22 SlV := hasTy_cell Tryz.sizeOf22 Tryz.isAgg22 rfl (fun _ => rfl)
instance : SlT Tryz.prog 23 9 := ⟨Tryz.underlying23⟩
instance : HasTy Tryz.prog 23 SlV := hasTy_cell Tryz.sizeOf23 Tryz.isAgg23 rfl (fun _ => rfl)
instance : SlT Tryz.prog 27 23 := ⟨Tryz.underlying27⟩
instance : HasTy Tryz.prog 27 SlV := hasTy_cell Tryz.sizeOf27 Tryz.isAgg27 rfl (fun _ => rfl)
instance : IntT Tryz.prog 28 .i64 := ⟨Tryz.underlying28⟩
instance : KeyT Tryz.prog 28 Int := keyT_int Tryz.underlying28
instance : HasTy Tryz.prog 28 Int := hasTy_cell Tryz.sizeOf28 Tryz.isAgg28 rfl (fun _ => rfl)
instance : SlT Tryz.prog 31 21 := ⟨Tryz.underlying31⟩
instance : HasTy Tryz.prog 31 SlV := hasTy_cell Tryz.sizeOf31 Tryz.isAgg31 rfl (fun _ => rfl)
instance : SlT Tryz.prog 38 56 := ⟨Tryz.underlying38⟩
instance : HasTy Tryz.prog 38 SlV := hasTy_cell Tryz.sizeOf38 Tryz.isAgg38 rfl (fun _ => rfl)
instance : SlT Tryz.prog 43 61 := ⟨Tryz.underlying43⟩
instance : HasTy Tryz.prog 43 SlV := hasTy_cell Tryz.sizeOf43 Tryz.isAgg43 rfl (fun _ => rfl)
instance : SlT Tryz.prog 53 58 := ⟨Tryz.underlying53⟩
instance : HasTy Tryz.prog 53 SlV := hasTy_cell Tryz.sizeOf53 Tryz.isAgg53 rfl (fun _ => rfl)
instance : SlT Tryz.prog 59 64 := ⟨Tryz.underlying59⟩
instance : HasTy Tryz.prog 59 SlV := hasTy_cell Tryz.sizeOf59 Tryz.isAgg59 rfl (fun _ => rfl)
instance : SlT Tryz.prog 62 109 := ⟨Tryz.underlying62⟩
instance : HasTy Tryz.prog 62 SlV := hasTy_cell Tryz.sizeOf62 Tryz.isAgg62 rfl (fun _ => rfl)
instance : SlT Tryz.prog 69 136 := ⟨Tryz.underlying69⟩
instance : HasTy Tryz.prog 69 SlV := hasTy_cell Tryz.sizeOf69 Tryz.isAgg69 rfl (fun _ => rfl)
instance : SlT Tryz.prog 78 81 := ⟨Tryz.underlying78⟩
instance : HasTy Tryz.prog 78 SlV := hasTy_cell Tryz.sizeOf78 Tryz.isAgg78 rfl (fun _ => rfl)
instance : SlT Tryz.prog 85 87 := ⟨Tryz.underlying85⟩
instance : HasTy Tryz.prog 85 SlV := hasTy_cell Tryz.sizeOf85 Tryz.isAgg85 rfl (fun _ => rfl)
instance : SlT Tryz.prog 115 116 := ⟨Tryz.underlying115⟩
instance : HasTy Tryz.prog 115 SlV := hasTy_cell Tryz.sizeOf115 Tryz.isAgg115 rfl (fun _ => rfl)
instance : SlT Tryz.prog 116 3 := ⟨Tryz.underlying116⟩
instance : HasTy Tryz.prog 116 SlV := hasTy_cell Tryz.sizeOf116 Tryz.isAgg116 rfl (fun _ => rfl)
instance : SlT Tryz.prog 120 153 := ⟨Tryz.underlying120⟩
instance : HasTy Tryz.prog 120 SlV := hasTy_cell Tryz.sizeOf120 Tryz.isAgg120 rfl (fun _ => rfl)
instance : IntT Tryz.prog 134 .i64 := ⟨Tryz.underlying134⟩
instance : KeyT Tryz.prog 134 Int := keyT_int Tryz.underlying134
instance : HasTy Tryz.prog 134 Int := hasTy_cell Tryz.sizeOf134 Tryz.isAgg134 rfl (fun _ => rfl)
instance : SlT Tryz.prog 157 53 := ⟨Tryz.underlying157⟩
instance : HasTy Tryz.prog 157 SlV := hasTy_cell Tryz.sizeOf157 Tryz.isAgg157 rfl (fun _ => rfl)
instance : SlT Tryz.prog 158 132 := ⟨Tryz.underlying158⟩
instance : HasTy Tryz.prog 158 SlV := hasTy_cell Tryz.sizeOf158 Tryz.isAgg158 rfl (fun _ => rfl)
instance : IntT Tryz.prog 174 .u64 := ⟨Tryz.underlying174⟩
instance : MapT Tryz.prog 176 21 177 := ⟨Tryz.underlying176⟩
instance : SlT Tryz.prog 177 179 := ⟨Tryz.underlying177⟩
instance : HasTy Tryz.prog 177 SlV := hasTy_cell Tryz.sizeOf177 Tryz.isAgg177 rfl (fun _ => rfl)
instance : IntT Tryz.prog 203 .u64 := ⟨Tryz.underlying203⟩
instance : SlT Tryz.prog 204 28 := ⟨Tryz.underlying204⟩
instance : HasTy Tryz.prog 204 SlV := hasTy_cell Tryz.sizeOf204 Tryz.isAgg204 rfl (fun _ => rfl)
instance : IntT Tryz.prog 238 .i64 := ⟨Tryz.underlying238⟩
instance : KeyT Tryz.prog 238 Int := keyT_int Tryz.underlying238
instance : HasTy Tryz.prog 238 Int := hasTy_cell Tryz.sizeOf238 Tryz.isAgg238 rfl (fun _ => rfl)
instance : IntT Tryz.prog 246 .u32 := ⟨Tryz.underlying246⟩
instance : MapT Tryz.prog 248 9 3 := ⟨Tryz.underlying248⟩
instance : MapT Tryz.prog 250 211 177 := ⟨Tryz.underlying250⟩
instance : SlT Tryz.prog 254 213 := ⟨Tryz.underlying254⟩
instance : HasTy Tryz.prog 254 SlV := hasTy_cell Tryz.sizeOf254 Tryz.isAgg254 rfl (fun _ => rfl)
instance : SlT Tryz.prog 258 62 := ⟨Tryz.underlying258⟩
instance : HasTy Tryz.prog 258 SlV := hasTy_cell Tryz.sizeOf258 Tryz.isAgg258 rfl (fun _ => rfl)
instance : IntT Tryz.prog 260 .u64 := ⟨Tryz.underlying260⟩
instance : SlT Tryz.prog 267 5 := ⟨Tryz.underlying267⟩
instance : HasTy Tryz.prog 267 SlV := hasTy_cell Tryz.sizeOf267 Tryz.isAgg267 rfl (fun _ => rfl)
instance : IntT Tryz.prog 293 .u8 := ⟨Tryz.underlying293⟩
instance : IntT Tryz.prog 294 .u8 := ⟨Tryz.underlying294⟩
instance : IntT Tryz.prog 296 .i32 := ⟨Tryz.underlying296⟩
instance : IntT Tryz.prog 297 .i32 := ⟨Tryz.underlying297⟩
instance : CellT Tryz.prog 1 := ⟨Tryz.isAgg1⟩
instance : CellT Tryz.prog 2 := ⟨Tryz.isAgg2⟩
instance : CellT Tryz.prog 3 := ⟨Tryz.isAgg3⟩
instance : CellT Tryz.prog 4 := ⟨Tryz.isAgg4⟩
instance : CellT Tryz.prog 5 := ⟨Tryz.isAgg5⟩
instance : CellT Tryz.prog 6 := ⟨Tryz.isAgg6⟩
instance : AggT Tryz.prog 7 := ⟨Tryz.isAgg7⟩
instance : AggT Tryz.prog 8 := ⟨Tryz.isAgg8⟩
instance : CellT Tryz.prog 9 := ⟨Tryz.isAgg9⟩
instance : CellT Tryz.prog 10 := ⟨Tryz.isAgg10⟩
instance : CellT Tryz.prog 11 := ⟨Tryz.isAgg11⟩
instance : CellT Tryz.prog 12 := ⟨Tryz.isAgg12⟩
instance : AggT Tryz.prog 13 := ⟨Tryz.isAgg13⟩
instance : AggT Tryz.prog 14 := ⟨Tryz.isAgg14⟩
instance : CellT Tryz.prog 15 := ⟨Tryz.isAgg15⟩
instance : CellT Tryz.prog 16 := ⟨Tryz.isAgg16⟩
instance : CellT Tryz.prog 17 := ⟨Tryz.isAgg17⟩
instance : AggT Tryz.prog 18 := ⟨Tryz.isAgg18⟩
instance : AggT Tryz.prog 19 := ⟨Tryz.isAgg19⟩
instance : CellT Tryz.prog 21 := ⟨Tryz.isAgg21⟩
instance : CellT Tryz.prog 22 := ⟨Tryz.isAgg22⟩
instance : CellT Tryz.prog 23 := ⟨Tryz.isAgg23⟩
instance : CellT Tryz.prog 24 := ⟨Tryz.isAgg24⟩
instance : CellT Tryz.prog 25 := ⟨Tryz.isAgg25⟩
instance : CellT Tryz.prog 26 := ⟨Tryz.isAgg26⟩
instance : CellT Tryz.prog 27 := ⟨Tryz.isAgg27⟩
instance : CellT Tryz.prog 28 := ⟨Tryz.isAgg28⟩
instance : CellT Tryz.prog 30 := ⟨Tryz.isAgg30⟩
instance : CellT Tryz.prog 31 := ⟨Tryz.isAgg31⟩
instance : CellT Tryz.prog 33 := ⟨Tryz.isAgg33⟩
instance : CellT Tryz.prog 35 := ⟨Tryz.isAgg35⟩
instance : CellT Tryz.prog 36 := ⟨Tryz.isAgg36⟩
instance : CellT Tryz.prog 37 := ⟨Tryz.isAgg37⟩
instance : CellT Tryz.prog 38 := ⟨Tryz.isAgg38⟩
instance : AggT Tryz.prog 39 := ⟨Tryz.isAgg39⟩
instance : AggT Tryz.prog 40 := ⟨Tryz.isAgg40⟩
instance : CellT Tryz.prog 41 := ⟨Tryz.isAgg41⟩
instance : CellT Tryz.prog 42 := ⟨Tryz.isAgg42⟩
instance : CellT Tryz.prog 43 := ⟨Tryz.isAgg43⟩
instance : AggT Tryz.prog 44 := ⟨Tryz.isAgg44⟩
instance : AggT Tryz.prog 45 := ⟨Tryz.isAgg45⟩
instance : CellT Tryz.prog 47 := ⟨Tryz.isAgg47⟩
instance : CellT Tryz.prog 48 := ⟨Tryz.isAgg48⟩
instance : CellT Tryz.prog 49 := ⟨Tryz.isAgg49⟩
instance : CellT Tryz.prog 50 := ⟨Tryz.isAgg50⟩
instance : CellT Tryz.prog 51 := ⟨Tryz.isAgg51⟩
instance : CellT Tryz.prog 52 := ⟨Tryz.isAgg52⟩
instance : CellT Tryz.prog 53 := ⟨Tryz.isAgg53⟩
instance : CellT Tryz.prog 54 := ⟨Tryz.isAgg54⟩
instance : AggT Tryz.prog 55 := ⟨Tryz.isAgg55⟩
instance : AggT Tryz.prog 56 := ⟨Tryz.isAgg56⟩
instance : AggT Tryz.prog 57 := ⟨Tryz.isAgg57⟩
instance : AggT Tryz.prog 58 := ⟨Tryz.isAgg58⟩
instance : CellT Tryz.prog 59 := ⟨Tryz.isAgg59⟩
instance : AggT Tryz.prog 60 := ⟨Tryz.isAgg60⟩
instance : AggT Tryz.prog 61 := ⟨Tryz.isAgg61⟩
instance : CellT Tryz.prog 62 := ⟨Tryz.isAgg62⟩
instance : AggT Tryz.prog 63 := ⟨Tryz.isAgg63⟩
instance : AggT Tryz.prog 64 := ⟨Tryz.isAgg64⟩
instance : CellT Tryz.prog 65 := ⟨Tryz.isAgg65⟩
instance : CellT Tryz.prog 66 := ⟨Tryz.isAgg66⟩
instance : AggT Tryz.prog 67 := ⟨Tryz.isAgg67⟩
instance : AggT Tryz.prog 68 := ⟨Tryz.isAgg68⟩
instance : CellT Tryz.prog 69 := ⟨Tryz.isAgg69⟩
instance : CellT Tryz.prog 71 := ⟨Tryz.isAgg71⟩
instance : CellT Tryz.prog 72 := ⟨Tryz.isAgg72⟩
instance : CellT Tryz.prog 73 := ⟨Tryz.isAgg73⟩
instance : CellT Tryz.prog 74 := ⟨Tryz.isAgg74⟩
instance : CellT Tryz.prog 75 := ⟨Tryz.isAgg75⟩
instance : CellT Tryz.prog 76 := ⟨Tryz.isAgg76⟩
instance : CellT Tryz.prog 77 := ⟨Tryz.isAgg77⟩
instance : CellT Tryz.prog 78 := ⟨Tryz.isAgg78⟩
instance : CellT Tryz.prog 79 := ⟨Tryz.isAgg79⟩
instance : AggT Tryz.prog 80 := ⟨Tryz.isAgg80⟩
instance : AggT Tryz.prog 81 := ⟨Tryz.isAgg81⟩
instance : CellT Tryz.prog 83 := ⟨Tryz.isAgg83⟩
instance : CellT Tryz.prog 84 := ⟨Tryz.isAgg84⟩
instance : CellT Tryz.prog 85 := ⟨Tryz.isAgg85⟩
instance : AggT Tryz.prog 86 := ⟨Tryz.isAgg86⟩
instance : AggT Tryz.prog 87 := ⟨Tryz.isAgg87⟩
instance : CellT Tryz.prog 89 := ⟨Tryz.isAgg89⟩
instance : CellT Tryz.prog 90 := ⟨Tryz.isAgg90⟩
instance : CellT Tryz.prog 91 := ⟨Tryz.isAgg91⟩
instance : CellT Tryz.prog 92 := ⟨Tryz.isAgg92⟩
instance : CellT Tryz.prog 93 := ⟨Tryz.isAgg93⟩
instance : CellT Tryz.prog 94 := ⟨Tryz.isAgg94⟩
instance : CellT Tryz.prog 95 := ⟨Tryz.isAgg95⟩
instance : CellT Tryz.prog 96 := ⟨Tryz.isAgg96⟩
instance : AggT Tryz.prog 97 := ⟨Tryz.isAgg97⟩
instance : AggT Tryz.prog 98 := ⟨Tryz.isAgg98⟩
instance : CellT Tryz.prog 100 := ⟨Tryz.isAgg100⟩
instance : CellT Tryz.prog 101 := ⟨Tryz.isAgg101⟩
instance : CellT Tryz.prog 102 := ⟨Tryz.isAgg102⟩
instance : CellT Tryz.prog 103 := ⟨Tryz.isAgg103⟩
instance : CellT Tryz.prog 104 := ⟨Tryz.isAgg104⟩
instance : CellT Tryz.prog 106 := ⟨Tryz.isAgg106⟩
instance : CellT Tryz.prog 107 := ⟨Tryz.isAgg107⟩
instance : AggT Tryz.prog 108 := ⟨Tryz.isAgg108⟩
instance : AggT Tryz.prog 109 := ⟨Tryz.isAgg109⟩
instance : CellT Tryz.prog 110 := ⟨Tryz.isAgg110⟩
instance : CellT Tryz.prog 111 := ⟨Tryz.isAgg111⟩
instance : CellT Tryz.prog 113 := ⟨Tryz.isAgg113⟩
instance : CellT Tryz.prog 114 := ⟨Tryz.isAgg114⟩
instance : CellT Tryz.prog 115 := ⟨Tryz.isAgg115⟩
instance : CellT Tryz.prog 116 := ⟨Tryz.isAgg116⟩
instance : CellT Tryz.prog 117 := ⟨Tryz.isAgg117⟩
instance : CellT Tryz.prog 118 := ⟨Tryz.isAgg118⟩
instance : CellT Tryz.prog 119 := ⟨Tryz.isAgg119⟩
instance : CellT Tryz.prog 120 := ⟨Tryz.isAgg120⟩
instance : CellT Tryz.prog 121 := ⟨Tryz.isAgg121⟩
instance : CellT Tryz.prog 122 := ⟨Tryz.isAgg122⟩
instance : CellT Tryz.prog 123 := ⟨Tryz.isAgg123⟩
instance : CellT Tryz.prog 124 := ⟨Tryz.isAgg124⟩
instance : CellT Tryz.prog 125 := ⟨Tryz.isAgg125⟩
instance : CellT Tryz.prog 126 := ⟨Tryz.isAgg126⟩
instance : CellT Tryz.prog 127 := ⟨Tryz.isAgg127⟩
instance : CellT Tryz.prog 129 := ⟨Tryz.isAgg129⟩
instance : AggT Tryz.prog 130 := ⟨Tryz.isAgg130⟩
instance : AggT Tryz.prog 131 := ⟨Tryz.isAgg131⟩
instance : CellT Tryz.prog 132 := ⟨Tryz.isAgg132⟩
instance : CellT Tryz.prog 133 := ⟨Tryz.isAgg133⟩
instance : CellT Tryz.prog 134 := ⟨Tryz.isAgg134⟩
instance : AggT Tryz.prog 135 := ⟨Tryz.isAgg135⟩
instance : AggT Tryz.prog 136 := ⟨Tryz.isAgg136⟩
instance : CellT Tryz.prog 138 := ⟨Tryz.isAgg138⟩
instance : CellT Tryz.prog 139 := ⟨Tryz.isAgg139⟩
instance : CellT Tryz.prog 140 := ⟨Tryz.isAgg140⟩
instance : CellT Tryz.prog 141 := ⟨Tryz.isAgg141⟩
instance : CellT Tryz.prog 142 := ⟨Tryz.isAgg142⟩
instance : CellT Tryz.prog 143 := ⟨Tryz.isAgg143⟩
instance : CellT Tryz.prog 144 := ⟨Tryz.isAgg144⟩
instance : CellT Tryz.prog 145 := ⟨Tryz.isAgg145⟩
instance : CellT Tryz.prog 147 := ⟨Tryz.isAgg147⟩
instance : CellT Tryz.prog 148 := ⟨Tryz.isAgg148⟩
instance : CellT Tryz.prog 149 := ⟨Tryz.isAgg149⟩
instance : CellT Tryz.prog 150 := ⟨Tryz.isAgg150⟩
instance : CellT Tryz.prog 151 := ⟨Tryz.isAgg151⟩
instance : AggT Tryz.prog 152 := ⟨Tryz.isAgg152⟩
instance : AggT Tryz.prog 153 := ⟨Tryz.isAgg153⟩
instance : CellT Tryz.prog 155 := ⟨Tryz.isAgg155⟩
instance : CellT Tryz.prog 156 := ⟨Tryz.isAgg156⟩
instance : CellT Tryz.prog 157 := ⟨Tryz.isAgg157⟩
instance : CellT Tryz.prog 158 := ⟨Tryz.isAgg158⟩
instance : CellT Tryz.prog 159 := ⟨Tryz.isAgg159⟩
instance : CellT Tryz.prog 160 := ⟨Tryz.isAgg160⟩
instance : CellT Tryz.prog 161 := ⟨Tryz.isAgg161⟩
instance : CellT Tryz.prog 162 := ⟨Tryz.isAgg162⟩
instance : CellT Tryz.prog 163 := ⟨Tryz.isAgg163⟩
instance : CellT Tryz.prog 164 := ⟨Tryz.isAgg164⟩
instance : CellT Tryz.prog 165 := ⟨Tryz.isAgg165⟩
instance : CellT Tryz.prog 166 := ⟨Tryz.isAgg166⟩
instance : CellT Tryz.prog 167 := ⟨Tryz.isAgg167⟩
instance : CellT Tryz.prog 168 := ⟨Tryz.isAgg168⟩
instance : CellT Tryz.prog 169 := ⟨Tryz.isAgg169⟩
instance : AggT Tryz.prog 170 := ⟨Tryz.isAgg170⟩
instance : AggT Tryz.prog 171 := ⟨Tryz.isAgg171⟩
instance : AggT Tryz.prog 172 := ⟨Tryz.isAgg172⟩
instance : AggT Tryz.prog 173 := ⟨Tryz.isAgg173⟩
instance : CellT Tryz.prog 174 := ⟨Tryz.isAgg174⟩
instance : CellT Tryz.prog 175 := ⟨Tryz.isAgg175⟩
instance : CellT Tryz.prog 176 := ⟨Tryz.isAgg176⟩
instance : CellT Tryz.prog 177 := ⟨Tryz.isAgg177⟩
instance : AggT Tryz.prog 178 := ⟨Tryz.isAgg178⟩
instance : AggT Tryz.prog 179 := ⟨Tryz.isAgg179⟩
instance : CellT Tryz.prog 180 := ⟨Tryz.isAgg180⟩
instance : CellT Tryz.prog 181 := ⟨Tryz.isAgg181⟩
instance : CellT Tryz.prog 182 := ⟨Tryz.isAgg182⟩
instance : CellT Tryz.prog 183 := ⟨Tryz.isAgg183⟩
instance : CellT Tryz.prog 184 := ⟨Tryz.isAgg184⟩
instance : CellT Tryz.prog 185 := ⟨Tryz.isAgg185⟩
instance : CellT Tryz.prog 186 := ⟨Tryz.isAgg186⟩
instance : CellT Tryz.prog 187 := ⟨Tryz.isAgg187⟩
instance : CellT Tryz.prog 188 := ⟨Tryz.isAgg188⟩
instance : CellT Tryz.prog 189 := ⟨Tryz.isAgg189⟩
instance : CellT Tryz.prog 190 := ⟨Tryz.isAgg190⟩
instance : CellT Tryz.prog 191 := ⟨Tryz.isAgg191⟩
instance : CellT Tryz.prog 192 := ⟨Tryz.isAgg192⟩
instance : CellT Tryz.prog 193 := ⟨Tryz.isAgg193⟩
instance : CellT Tryz.prog 194 := ⟨Tryz.isAgg194⟩
instance : CellT Tryz.prog 195 := ⟨Tryz.isAgg195⟩
instance : CellT Tryz.prog 197 := ⟨Tryz.isAgg197⟩
instance : CellT Tryz.prog 198 := ⟨Tryz.isAgg198⟩
instance : CellT Tryz.prog 199 := ⟨Tryz.isAgg199⟩
instance : CellT Tryz.prog 200 := ⟨Tryz.isAgg200⟩
instance : CellT Tryz.prog 201 := ⟨Tryz.isAgg201⟩
instance : CellT Tryz.prog 202 := ⟨Tryz.isAgg202⟩
instance : CellT Tryz.prog 203 := ⟨Tryz.isAgg203⟩
instance : CellT Tryz.prog 204 := ⟨Tryz.isAgg204⟩
instance : CellT Tryz.prog 205 := ⟨Tryz.isAgg205⟩
instance : CellT Tryz.prog 206 := ⟨Tryz.isAgg206⟩
instance : CellT Tryz.prog 207 := ⟨Tryz.isAgg207⟩
instance : CellT Tryz.prog 209 := ⟨Tryz.isAgg209⟩
instance : AggT Tryz.prog 210 := ⟨Tryz.isAgg210⟩
instance : AggT Tryz.prog 211 := ⟨Tryz.isAgg211⟩
instance : AggT Tryz.prog 212 := ⟨Tryz.isAgg212⟩
instance : AggT Tryz.prog 213 := ⟨Tryz.isAgg213⟩
instance : CellT Tryz.prog 215 := ⟨Tryz.isAgg215⟩
instance : CellT Tryz.prog 216 := ⟨Tryz.isAgg216⟩
instance : CellT Tryz.prog 217 := ⟨Tryz.isAgg217⟩
instance : CellT Tryz.prog 218 := ⟨Tryz.isAgg218⟩
instance : CellT Tryz.prog 219 := ⟨Tryz.isAgg219⟩
instance : CellT Tryz.prog 220 := ⟨Tryz.isAgg220⟩
instance : CellT Tryz.prog 222 := ⟨Tryz.isAgg222⟩
instance : CellT Tryz.prog 224 := ⟨Tryz.isAgg224⟩
instance : CellT Tryz.prog 225 := ⟨Tryz.isAgg225⟩
instance : CellT Tryz.prog 226 := ⟨Tryz.isAgg226⟩
instance : CellT Tryz.prog 227 := ⟨Tryz.isAgg227⟩
instance : CellT Tryz.prog 228 := ⟨Tryz.isAgg228⟩
instance : CellT Tryz.prog 229 := ⟨Tryz.isAgg229⟩
instance : CellT Tryz.prog 230 := ⟨Tryz.isAgg230⟩
instance : CellT Tryz.prog 231 := ⟨Tryz.isAgg231⟩
instance : CellT Tryz.prog 232 := ⟨Tryz.isAgg232⟩
instance : CellT Tryz.prog 233 := ⟨Tryz.isAgg233⟩
instance : CellT Tryz.prog 234 := ⟨Tryz.isAgg234⟩
instance : CellT Tryz.prog 235 := ⟨Tryz.isAgg235⟩
instance : CellT Tryz.prog 236 := ⟨Tryz.isAgg236⟩
instance : CellT Tryz.prog 237 := ⟨Tryz.isAgg237⟩
instance : CellT Tryz.prog 238 := ⟨Tryz.isAgg238⟩
instance : CellT Tryz.prog 240 := ⟨Tryz.isAgg240⟩
instance : CellT Tryz.prog 241 := ⟨Tryz.isAgg241⟩
instance : CellT Tryz.prog 242 := ⟨Tryz.isAgg242⟩
instance : CellT Tryz.prog 243 := ⟨Tryz.isAgg243⟩
instance : CellT Tryz.prog 244 := ⟨Tryz.isAgg244⟩
instance : CellT Tryz.prog 245 := ⟨Tryz.isAgg245⟩
instance : CellT Tryz.prog 246 := ⟨Tryz.isAgg246⟩
instance : CellT Tryz.prog 247 := ⟨Tryz.isAgg247⟩
instance : CellT Tryz.prog 248 := ⟨Tryz.isAgg248⟩
instance : CellT Tryz.prog 249 := ⟨Tryz.isAgg249⟩
instance : CellT Tryz.prog 250 := ⟨Tryz.isAgg250⟩
instance : CellT Tryz.prog 251 := ⟨Tryz.isAgg251⟩
instance : CellT Tryz.prog 252 := ⟨Tryz.isAgg252⟩
instance : CellT Tryz.prog 253 := ⟨Tryz.isAgg253⟩
instance : CellT Tryz.prog 254 := ⟨Tryz.isAgg254⟩
instance : CellT Tryz.prog 255 := ⟨Tryz.isAgg255⟩
instance : CellT Tryz.prog 256 := ⟨Tryz.isAgg256⟩
instance : CellT Tryz.prog 257 := ⟨Tryz.isAgg257⟩
instance : CellT Tryz.prog 258 := ⟨Tryz.isAgg258⟩
instance : CellT Tryz.prog 259 := ⟨Tryz.isAgg259⟩
instance : CellT Tryz.prog 260 := ⟨Tryz.isAgg260⟩
instance : CellT Tryz.prog 261 := ⟨Tryz.isAgg261⟩
instance : CellT Tryz.prog 262 := ⟨Tryz.isAgg262⟩
instance : CellT Tryz.prog 263 := ⟨Tryz.isAgg263⟩
instance : CellT Tryz.prog 264 := ⟨Tryz.isAgg264⟩
instance : CellT Tryz.prog 265 := ⟨Tryz.isAgg265⟩
instance : CellT Tryz.prog 266 := ⟨Tryz.isAgg266⟩
instance : CellT Tryz.prog 267 := ⟨Tryz.isAgg267⟩
instance : AggT Tryz.prog 268 := ⟨Tryz.isAgg268⟩
instance : AggT Tryz.prog 269 := ⟨Tryz.isAgg269⟩
instance : CellT Tryz.prog 270 := ⟨Tryz.isAgg270⟩
instance : CellT Tryz.prog 274 := ⟨Tryz.isAgg274⟩
instance : CellT Tryz.prog 275 := ⟨Tryz.isAgg275⟩
instance : CellT Tryz.prog 276 := ⟨Tryz.isAgg276⟩
instance : CellT Tryz.prog 277 := ⟨Tryz.isAgg277⟩
instance : CellT Tryz.prog 278 := ⟨Tryz.isAgg278⟩
instance : CellT Tryz.prog 279 := ⟨Tryz.isAgg279⟩
instance : CellT Tryz.prog 281 := ⟨Tryz.isAgg281⟩
instance : CellT Tryz.prog 282 := ⟨Tryz.isAgg282⟩
instance : CellT Tryz.prog 283 := ⟨Tryz.isAgg283⟩
instance : CellT Tryz.prog 285 := ⟨Tryz.isAgg285⟩
instance : CellT Tryz.prog 286 := ⟨Tryz.isAgg286⟩
instance : AggT Tryz.prog 287 := ⟨Tryz.isAgg287⟩
instance : AggT Tryz.prog 288 := ⟨Tryz.isAgg288⟩
instance : AggT Tryz.prog 289 := ⟨Tryz.isAgg289⟩
instance : AggT Tryz.prog 290 := ⟨Tryz.isAgg290⟩
instance : AggT Tryz.prog 291 := ⟨Tryz.isAgg291⟩
instance : CellT Tryz.prog 292 := ⟨Tryz.isAgg292⟩
instance : CellT Tryz.prog 293 := ⟨Tryz.isAgg293⟩
instance : CellT Tryz.prog 294 := ⟨Tryz.isAgg294⟩
instance : CellT Tryz.prog 295 := ⟨Tryz.isAgg295⟩
instance : CellT Tryz.prog 296 := ⟨Tryz.isAgg296⟩
instance : CellT Tryz.prog 297 := ⟨Tryz.isAgg297⟩
instance : AggT Tryz.prog 298 := ⟨Tryz.isAgg298⟩
instance : AggT Tryz.prog 299 := ⟨Tryz.isAgg299⟩
instance : SzT Tryz.prog 0 1 := ⟨Tryz.sizeOf0⟩
instance : SzT Tryz.prog 1 1 := ⟨Tryz.sizeOf1⟩
instance : SzT Tryz.prog 2 1 := ⟨Tryz.sizeOf2⟩
instance : SzT Tryz.prog 3 1 := ⟨Tryz.sizeOf3⟩
instance : SzT Tryz.prog 4 1 := ⟨Tryz.sizeOf4⟩
instance : SzT Tryz.prog 5 1 := ⟨Tryz.sizeOf5⟩
instance : SzT Tryz.prog 6 1 := ⟨Tryz.sizeOf6⟩
instance : SzT Tryz.prog 7 4 := ⟨Tryz.sizeOf7⟩
instance : SzT Tryz.prog 8 4 := ⟨Tryz.sizeOf8⟩
instance : SzT Tryz.prog 9 1 := ⟨Tryz.sizeOf9⟩
instance : SzT Tryz.prog 10 1 := ⟨Tryz.sizeOf10⟩
instance : SzT Tryz.prog 11 1 := ⟨Tryz.sizeOf11⟩
instance : SzT Tryz.prog 12 1 := ⟨Tryz.sizeOf12⟩
instance : SzT Tryz.prog 13 2 := ⟨Tryz.sizeOf13⟩
instance : SzT Tryz.prog 14 2 := ⟨Tryz.sizeOf14⟩
instance : SzT Tryz.prog 15 1 := ⟨Tryz.sizeOf15⟩
instance : SzT Tryz.prog 16 1 := ⟨Tryz.sizeOf16⟩
instance : SzT Tryz.prog 17 1 := ⟨Tryz.sizeOf17⟩
instance : SzT Tryz.prog 18 1 := ⟨Tryz.sizeOf18⟩
instance : SzT Tryz.prog 19 1 := ⟨Tryz.sizeOf19⟩
instance : SzT Tryz.prog 20 1 := ⟨Tryz.sizeOf20⟩
instance : SzT Tryz.prog 21 1 := ⟨Tryz.sizeOf21⟩
instance : SzT Tryz.prog 22 1 := ⟨Tryz.sizeOf22⟩
instance : SzT Tryz.prog 23 1 := ⟨Tryz.sizeOf23⟩
instance : SzT Tryz.prog 24 1 := ⟨Tryz.sizeOf24⟩
instance : SzT Tryz.prog 25 1 := ⟨Tryz.sizeOf25⟩
instance : SzT Tryz.prog 26 1 := ⟨Tryz.sizeOf26⟩
instance : SzT Tryz.prog 27 1 := ⟨Tryz.sizeOf27⟩
instance : SzT Tryz.prog 28 1 := ⟨Tryz.sizeOf28⟩
instance : SzT Tryz.prog 29 1 := ⟨Tryz.sizeOf29⟩
instance : SzT Tryz.prog 30 1 := ⟨Tryz.sizeOf30⟩
instance : SzT Tryz.prog 31 1 := ⟨Tryz.sizeOf31⟩
instance : SzT Tryz.prog 32 1 := ⟨Tryz.sizeOf32⟩
instance : SzT Tryz.prog 33 1 := ⟨Tryz.sizeOf33⟩
instance : SzT Tryz.prog 34 1 := ⟨Tryz.sizeOf34⟩
instance : SzT Tryz.prog 35 1 := ⟨Tryz.sizeOf35⟩
instance : SzT Tryz.prog 36 1 := ⟨Tryz.sizeOf36⟩
instance : SzT Tryz.prog 37 1 := ⟨Tryz.sizeOf37⟩
instance : SzT Tryz.prog 38 1 := ⟨Tryz.sizeOf38⟩
instance : SzT Tryz.prog 39 3 := ⟨Tryz.sizeOf39⟩
instance : SzT Tryz.prog 40 3 := ⟨Tryz.sizeOf40⟩
instance : SzT Tryz.prog 41 1 := ⟨Tryz.sizeOf41⟩
instance : SzT Tryz.prog 42 1 := ⟨Tryz.sizeOf42⟩
instance : SzT Tryz.prog 43 1 := ⟨Tryz.sizeOf43⟩
instance : SzT Tryz.prog 44 1 := ⟨Tryz.sizeOf44⟩
instance : SzT Tryz.prog 45 1 := ⟨Tryz.sizeOf45⟩
instance : SzT Tryz.prog 46 1 := ⟨Tryz.sizeOf46⟩
instance : SzT Tryz.prog 47 1 := ⟨Tryz.sizeOf47⟩
instance : SzT Tryz.prog 48 1 := ⟨Tryz.sizeOf48⟩
instance : SzT Tryz.prog 49 1 := ⟨Tryz.sizeOf49⟩
instance : SzT Tryz.prog 50 1 := ⟨Tryz.sizeOf50⟩
instance : SzT Tryz.prog 51 1 := ⟨Tryz.sizeOf51⟩
instance : SzT Tryz.prog 52 1 := ⟨Tryz.sizeOf52⟩
instance : SzT Tryz.prog 53 1 := ⟨Tryz.sizeOf53⟩
instance : SzT Tryz.prog 54 1 := ⟨Tryz.sizeOf54⟩
instance : SzT Tryz.prog 55 2 := ⟨Tryz.sizeOf55⟩
instance : SzT Tryz.prog 56 2 := ⟨Tryz.sizeOf56⟩
instance : SzT Tryz.prog 57 3 := ⟨Tryz.sizeOf57⟩
instance : SzT Tryz.prog 58 3 := ⟨Tryz.sizeOf58⟩
instance : SzT Tryz.prog 59 1 := ⟨Tryz.sizeOf59⟩
instance : SzT Tryz.prog 60 2 := ⟨Tryz.sizeOf60⟩
instance : SzT Tryz.prog 61 2 := ⟨Tryz.sizeOf61⟩
instance : SzT Tryz.prog 62 1 := ⟨Tryz.sizeOf62⟩
instance : SzT Tryz.prog 63 2 := ⟨Tryz.sizeOf63⟩
instance : SzT Tryz.prog 64 2 := ⟨Tryz.sizeOf64⟩
instance : SzT Tryz.prog 65 1 := ⟨Tryz.sizeOf65⟩
instance : SzT Tryz.prog 66 1 := ⟨Tryz.sizeOf66⟩
instance : SzT Tryz.prog 67 3 := ⟨Tryz.sizeOf67⟩
instance : SzT Tryz.prog 68 3 := ⟨Tryz.sizeOf68⟩
instance : SzT Tryz.prog 69 1 := ⟨Tryz.sizeOf69⟩
instance : SzT Tryz.prog 70 1 := ⟨Tryz.sizeOf70⟩
instance : SzT Tryz.prog 71 1 := ⟨Tryz.sizeOf71⟩
instance : SzT Tryz.prog 72 1 := ⟨Tryz.sizeOf72⟩
instance : SzT Tryz.prog 73 1 := ⟨Tryz.sizeOf73⟩
instance : SzT Tryz.prog 74 1 := ⟨Tryz.sizeOf74⟩
instance : SzT Tryz.prog 75 1 := ⟨Tryz.sizeOf75⟩
instance : SzT Tryz.prog 76 1 := ⟨Tryz.sizeOf76⟩
instance : SzT Tryz.prog 77 1 := ⟨Tryz.sizeOf77⟩
instance : SzT Tryz.prog 78 1 := ⟨Tryz.sizeOf78⟩
instance : SzT Tryz.prog 79 1 := ⟨Tryz.sizeOf79⟩
instance : SzT Tryz.prog 80 4 := ⟨Tryz.sizeOf80⟩
instance : SzT Tryz.prog 81 4 := ⟨Tryz.sizeOf81⟩
instance : SzT Tryz.prog 82 1 := ⟨Tryz.sizeOf82⟩
instance : SzT Tryz.prog 83 1 := ⟨Tryz.sizeOf83⟩
instance : SzT Tryz.prog 84 1 := ⟨Tryz.sizeOf84⟩
instance : SzT Tryz.prog 85 1 := ⟨Tryz.sizeOf85⟩
instance : SzT Tryz.prog 86 2 := ⟨Tryz.sizeOf86⟩
instance : SzT Tryz.prog 87 2 := ⟨Tryz.sizeOf87⟩
instance : SzT Tryz.prog 88 1 := ⟨Tryz.sizeOf88⟩
instance : SzT Tryz.prog 89 1 := ⟨Tryz.sizeOf89⟩
instance : SzT Tryz.prog 90 1 := ⟨Tryz.sizeOf90⟩
instance : SzT Tryz.prog 91 1 := ⟨Tryz.sizeOf91⟩
instance : SzT Tryz.prog 92 1 := ⟨Tryz.sizeOf92⟩
instance : SzT Tryz.prog 93 1 := ⟨Tryz.sizeOf93⟩
instance : SzT Tryz.prog 94 1 := ⟨Tryz.sizeOf94⟩
instance : SzT Tryz.prog 95 1 := ⟨Tryz.sizeOf95⟩
instance : SzT Tryz.prog 96 1 := ⟨Tryz.sizeOf96⟩
instance : SzT Tryz.prog 97 4 := ⟨Tryz.sizeOf97⟩
instance : SzT Tryz.prog 98 4 := ⟨Tryz.sizeOf98⟩
instance : SzT Tryz.prog 99 1 := ⟨Tryz.sizeOf99⟩
instance : SzT Tryz.prog 100 1 := ⟨Tryz.sizeOf100⟩
instance : SzT Tryz.prog 101 1 := ⟨Tryz.sizeOf101⟩
instance : SzT Tryz.prog 102 1 := ⟨Tryz.sizeOf102⟩
instance : SzT Tryz.prog 103 1 := ⟨Tryz.sizeOf103⟩
instance : SzT Tryz.prog 104 1 := ⟨Tryz.sizeOf104⟩
instance : SzT Tryz.prog 105 1 := ⟨Tryz.sizeOf105⟩
instance : SzT Tryz.prog 106 1 := ⟨Tryz.sizeOf106⟩
instance : SzT Tryz.prog 107 1 := ⟨Tryz.sizeOf107⟩
instance : SzT Tryz.prog 108 2 := ⟨Tryz.sizeOf108⟩
instance : SzT Tryz.prog 109 2 := ⟨Tryz.sizeOf109⟩
instance : SzT Tryz.prog 110 1 := ⟨Tryz.sizeOf110⟩
instance : SzT Tryz.prog 111 1 := ⟨Tryz.sizeOf111⟩
instance : SzT Tryz.prog 112 1 := ⟨Tryz.sizeOf112⟩
instance : SzT Tryz.prog 113 1 := ⟨Tryz.sizeOf113⟩
instance : SzT Tryz.prog 114 1 := ⟨Tryz.sizeOf114⟩
instance : SzT Tryz.prog 115 1 := ⟨Tryz.sizeOf115⟩
instance : SzT Tryz.prog 116 1 := ⟨Tryz.sizeOf116⟩
instance : SzT Tryz.prog 117 1 := ⟨Tryz.sizeOf117⟩
instance : SzT Tryz.prog 118 1 := ⟨Tryz.sizeOf118⟩
instance : SzT Tryz.prog 119 1 := ⟨Tryz.sizeOf119⟩
instance : SzT Tryz.prog 120 1 := ⟨Tryz.sizeOf120⟩
instance : SzT Tryz.prog 121 1 := ⟨Tryz.sizeOf121⟩
instance : SzT Tryz.prog 122 1 := ⟨Tryz.sizeOf122⟩
instance : SzT Tryz.prog 123 1 := ⟨Tryz.sizeOf123⟩
instance : SzT Tryz.prog 124 1 := ⟨Tryz.sizeOf124⟩
instance : SzT Tryz.prog 125 1 := ⟨Tryz.sizeOf125⟩
instance : SzT Tryz.prog 126 1 := ⟨Tryz.sizeOf126⟩
instance : SzT Tryz.prog 127 1 := ⟨Tryz.sizeOf127⟩
instance : SzT Tryz.prog 128 1 := ⟨Tryz.sizeOf128⟩
instance : SzT Tryz.prog 129 1 := ⟨Tryz.sizeOf129⟩
instance : SzT Tryz.prog 130 2 := ⟨Tryz.sizeOf130⟩
instance : SzT Tryz.prog 131 2 := ⟨Tryz.sizeOf131⟩
instance : SzT Tryz.prog 132 1 := ⟨Tryz.sizeOf132⟩
instance : SzT Tryz.prog 133 1 := ⟨Tryz.sizeOf133⟩
instance : SzT Tryz.prog 134 1 := ⟨Tryz.sizeOf134⟩
instance : SzT Tryz.prog 135 4 := ⟨Tryz.sizeOf135⟩
instance : SzT Tryz.prog 136 4 := ⟨Tryz.sizeOf136⟩
instance : SzT Tryz.prog 137 1 := ⟨Tryz.sizeOf137⟩
instance : SzT Tryz.prog 138 1 := ⟨Tryz.sizeOf138⟩
instance : SzT Tryz.prog 139 1 := ⟨Tryz.sizeOf139⟩
instance : SzT Tryz.prog 140 1 := ⟨Tryz.sizeOf140⟩
instance : SzT Tryz.prog 141 1 := ⟨Tryz.sizeOf141⟩
instance : SzT Tryz.prog 142 1 := ⟨Tryz.sizeOf142⟩
instance : SzT Tryz.prog 143 1 := ⟨Tryz.sizeOf143⟩
instance : SzT Tryz.prog 144 1 := ⟨Tryz.sizeOf144⟩
instance : SzT Tryz.prog 145 1 := ⟨Tryz.sizeOf145⟩
instance : SzT Tryz.prog 146 1 := ⟨Tryz.sizeOf146⟩
instance : SzT Tryz.prog 147 1 := ⟨Tryz.sizeOf147⟩
instance : SzT Tryz.prog 148 1 := ⟨Tryz.sizeOf148⟩
instance : SzT Tryz.prog 149 1 := ⟨Tryz.sizeOf149⟩
instance : SzT Tryz.prog 150 1 := ⟨Tryz.sizeOf150⟩
instance : SzT Tryz.prog 151 1 := ⟨Tryz.sizeOf151⟩
instance : SzT Tryz.prog 152 3 := ⟨Tryz.sizeOf152⟩
instance : SzT Tryz.prog 153 3 := ⟨Tryz.sizeOf153⟩
instance : SzT Tryz.prog 154 1 := ⟨Tryz.sizeOf154⟩
instance : SzT Tryz.prog 155 1 := ⟨Tryz.sizeOf155⟩
instance : SzT Tryz.prog 156 1 := ⟨Tryz.sizeOf156⟩
instance : SzT Tryz.prog 157 1 := ⟨Tryz.sizeOf157⟩
instance : SzT Tryz.prog 158 1 := ⟨Tryz.sizeOf158⟩
instance : SzT Tryz.prog 159 1 := ⟨Tryz.sizeOf159⟩
instance : SzT Tryz.prog 160 1 := ⟨Tryz.sizeOf160⟩
instance : SzT Tryz.prog 161 1 := ⟨Tryz.sizeOf161⟩
instance : SzT Tryz.prog 162 1 := ⟨Tryz.sizeOf162⟩
instance : SzT Tryz.prog 163 1 := ⟨Tryz.sizeOf163⟩
instance : SzT Tryz.prog 164 1 := ⟨Tryz.sizeOf164⟩
instance : SzT Tryz.prog 165 1 := ⟨Tryz.sizeOf165⟩
instance : SzT Tryz.prog 166 1 := ⟨Tryz.sizeOf166⟩
instance : SzT Tryz.prog 167 1 := ⟨Tryz.sizeOf167⟩
instance : SzT Tryz.prog 168 1 := ⟨Tryz.sizeOf168⟩
instance : SzT Tryz.prog 169 1 := ⟨Tryz.sizeOf169⟩
instance : SzT Tryz.prog 170 256 := ⟨Tryz.sizeOf170⟩
instance : SzT Tryz.prog 171 2 := ⟨Tryz.sizeOf171⟩
instance : SzT Tryz.prog 172 2 := ⟨Tryz.sizeOf172⟩
instance : SzT Tryz.prog 173 32 := ⟨Tryz.sizeOf173⟩
instance : SzT Tryz.prog 174 1 := ⟨Tryz.sizeOf174⟩
instance : SzT Tryz.prog 175 1 := ⟨Tryz.sizeOf175⟩
instance : SzT Tryz.prog 176 1 := ⟨Tryz.sizeOf176⟩
instance : SzT Tryz.prog 177 1 := ⟨Tryz.sizeOf177⟩
instance : SzT Tryz.prog 178 3 := ⟨Tryz.sizeOf178⟩
instance : SzT Tryz.prog 179 3 := ⟨Tryz.sizeOf179⟩
instance : SzT Tryz.prog 180 1 := ⟨Tryz.sizeOf180⟩
instance : SzT Tryz.prog 181 1 := ⟨Tryz.sizeOf181⟩
instance : SzT Tryz.prog 182 1 := ⟨Tryz.sizeOf182⟩
instance : SzT Tryz.prog 183 1 := ⟨Tryz.sizeOf183⟩
instance : SzT Tryz.prog 184 1 := ⟨Tryz.sizeOf184⟩
instance : SzT Tryz.prog 185 1 := ⟨Tryz.sizeOf185⟩
instance : SzT Tryz.prog 186 1 := ⟨Tryz.sizeOf186⟩
instance : SzT Tryz.prog 187 1 := ⟨Tryz.sizeOf187⟩
instance : SzT Tryz.prog 188 1 := ⟨Tryz.sizeOf188⟩
instance : SzT Tryz.prog 189 1 := ⟨Tryz.sizeOf189⟩
instance : SzT Tryz.prog 190 1 := ⟨Tryz.sizeOf190⟩
instance : SzT Tryz.prog 191 1 := ⟨Tryz.sizeOf191⟩
instance : SzT Tryz.prog 192 1 := ⟨Tryz.sizeOf192⟩
instance : SzT Tryz.prog 193 1 := ⟨Tryz.sizeOf193⟩
instance : SzT Tryz.prog 194 1 := ⟨Tryz.sizeOf194⟩
instance : SzT Tryz.prog 195 1 := ⟨Tryz.sizeOf195⟩
instance : SzT Tryz.prog 196 1 := ⟨Tryz.sizeOf196⟩
instance : SzT Tryz.prog 197 1 := ⟨Tryz.sizeOf197⟩
instance : SzT Tryz.prog 198 1 := ⟨Tryz.sizeOf198⟩
instance : SzT Tryz.prog 199 1 := ⟨Tryz.sizeOf199⟩
instance : SzT Tryz.prog 200 1 := ⟨Tryz.sizeOf200⟩
instance : SzT Tryz.prog 201 1 := ⟨Tryz.sizeOf201⟩
instance : SzT Tryz.prog 202 1 := ⟨Tryz.sizeOf202⟩
instance : SzT Tryz.prog 203 1 := ⟨Tryz.sizeOf203⟩
instance : SzT Tryz.prog 204 1 := ⟨Tryz.sizeOf204⟩
instance : SzT Tryz.prog 205 1 := ⟨Tryz.sizeOf205⟩
instance : SzT Tryz.prog 206 1 := ⟨Tryz.sizeOf206⟩
instance : SzT Tryz.prog 207 1 := ⟨Tryz.sizeOf207⟩
instance : SzT Tryz.prog 208 1 := ⟨Tryz.sizeOf208⟩
instance : SzT Tryz.prog 209 1 := ⟨Tryz.sizeOf209⟩
instance : SzT Tryz.prog 210 4 := ⟨Tryz.sizeOf210⟩
instance : SzT Tryz.prog 211 4 := ⟨Tryz.sizeOf211⟩
instance : SzT Tryz.prog 212 7 := ⟨Tryz.sizeOf212⟩
instance : SzT Tryz.prog 213 7 := ⟨Tryz.sizeOf213⟩
instance : SzT Tryz.prog 214 1 := ⟨Tryz.sizeOf214⟩
instance : SzT Tryz.prog 215 1 := ⟨Tryz.sizeOf215⟩
instance : SzT Tryz.prog 216 1 := ⟨Tryz.sizeOf216⟩
instance : SzT Tryz.prog 217 1 := ⟨Tryz.sizeOf217⟩
instance : SzT Tryz.prog 218 1 := ⟨Tryz.sizeOf218⟩
instance : SzT Tryz.prog 219 1 := ⟨Tryz.sizeOf219⟩
instance : SzT Tryz.prog 220 1 := ⟨Tryz.sizeOf220⟩
instance : SzT Tryz.prog 221 1 := ⟨Tryz.sizeOf221⟩
instance : SzT Tryz.prog 222 1 := ⟨Tryz.sizeOf222⟩
instance : SzT Tryz.prog 223 1 := ⟨Tryz.sizeOf223⟩
instance : SzT Tryz.prog 224 1 := ⟨Tryz.sizeOf224⟩
instance : SzT Tryz.prog 225 1 := ⟨Tryz.sizeOf225⟩
instance : SzT Tryz.prog 226 1 := ⟨Tryz.sizeOf226⟩
instance : SzT Tryz.prog 227 1 := ⟨Tryz.sizeOf227⟩
instance : SzT Tryz.prog 228 1 := ⟨Tryz.sizeOf228⟩
instance : SzT Tryz.prog 229 1 := ⟨Tryz.sizeOf229⟩
instance : SzT Tryz.prog 230 1 := ⟨Tryz.sizeOf230⟩
instance : SzT Tryz.prog 231 1 := ⟨Tryz.sizeOf231⟩
instance : SzT Tryz.prog 232 1 := ⟨Tryz.sizeOf232⟩
instance : SzT Tryz.prog 233 1 := ⟨Tryz.sizeOf233⟩
instance : SzT Tryz.prog 234 1 := ⟨Tryz.sizeOf234⟩
instance : SzT Tryz.prog 235 1 := ⟨Tryz.sizeOf235⟩
instance : SzT Tryz.prog 236 1 := ⟨Tryz.sizeOf236⟩
instance : SzT Tryz.prog 237 1 := ⟨Tryz.sizeOf237⟩
instance : SzT Tryz.prog 238 1 := ⟨Tryz.sizeOf238⟩
instance : SzT Tryz.prog 239 1 := ⟨Tryz.sizeOf239⟩
instance : SzT Tryz.prog 240 1 := ⟨Tryz.sizeOf240⟩
instance : SzT Tryz.prog 241 1 := ⟨Tryz.sizeOf241⟩
instance : SzT Tryz.prog 242 1 := ⟨Tryz.sizeOf242⟩
instance : SzT Tryz.prog 243 1 := ⟨Tryz.sizeOf243⟩
instance : SzT Tryz.prog 244 1 := ⟨Tryz.sizeOf244⟩
instance : SzT Tryz.prog 245 1 := ⟨Tryz.sizeOf245⟩
instance : SzT Tryz.prog 246 1 := ⟨Tryz.sizeOf246⟩
instance : SzT Tryz.prog 247 1 := ⟨Tryz.sizeOf247⟩
instance : SzT Tryz.prog 248 1 := ⟨Tryz.sizeOf248⟩
instance : SzT Tryz.prog 249 1 := ⟨Tryz.sizeOf249⟩
instance : SzT Tryz.prog 250 1 := ⟨Tryz.sizeOf250⟩
instance : SzT Tryz.prog 251 1 := ⟨Tryz.sizeOf251⟩
instance : SzT Tryz.prog 252 1 := ⟨Tryz.sizeOf252⟩
instance : SzT Tryz.prog 253 1 := ⟨Tryz.sizeOf253⟩
instance : SzT Tryz.prog 254 1 := ⟨Tryz.sizeOf254⟩
instance : SzT Tryz.prog 255 1 := ⟨Tryz.sizeOf255⟩
instance : SzT Tryz.prog 256 1 := ⟨Tryz.sizeOf256⟩
instance : SzT Tryz.prog 257 1 := ⟨Tryz.sizeOf257⟩
instance : SzT Tryz.prog 258 1 := ⟨Tryz.sizeOf258⟩
instance : SzT Tryz.prog 259 1 := ⟨Tryz.sizeOf259⟩
instance : SzT Tryz.prog 260 1 := ⟨Tryz.sizeOf260⟩
instance : SzT Tryz.prog 261 1 := ⟨Tryz.sizeOf261⟩
instance : SzT Tryz.prog 262 1 := ⟨Tryz.sizeOf262⟩
instance : SzT Tryz.prog 263 1 := ⟨Tryz.sizeOf263⟩
instance : SzT Tryz.prog 264 1 := ⟨Tryz.sizeOf264⟩
instance : SzT Tryz.prog 265 1 := ⟨Tryz.sizeOf265⟩
instance : SzT Tryz.prog 266 1 := ⟨Tryz.sizeOf266⟩
instance : SzT Tryz.prog 267 1 := ⟨Tryz.sizeOf267⟩
instance : SzT Tryz.prog 268 2 := ⟨Tryz.sizeOf268⟩
instance : SzT Tryz.prog 269 2 := ⟨Tryz.sizeOf269⟩
instance : SzT Tryz.prog 270 1 := ⟨Tryz.sizeOf270⟩
instance : SzT Tryz.prog 271 1 := ⟨Tryz.sizeOf271⟩
instance : SzT Tryz.prog 272 1 := ⟨Tryz.sizeOf272⟩
instance : SzT Tryz.prog 273 1 := ⟨Tryz.sizeOf273⟩
instance : SzT Tryz.prog 274 1 := ⟨Tryz.sizeOf274⟩
instance : SzT Tryz.prog 275 1 := ⟨Tryz.sizeOf275⟩
instance : SzT Tryz.prog 276 1 := ⟨Tryz.sizeOf276⟩
instance : SzT Tryz.prog 277 1 := ⟨Tryz.sizeOf277⟩
instance : SzT Tryz.prog 278 1 := ⟨Tryz.sizeOf278⟩
instance : SzT Tryz.prog 279 1 := ⟨Tryz.sizeOf279⟩
instance : SzT Tryz.prog 280 1 := ⟨Tryz.sizeOf280⟩
instance : SzT Tryz.prog 281 1 := ⟨Tryz.sizeOf281⟩
instance : SzT Tryz.prog 282 1 := ⟨Tryz.sizeOf282⟩
instance : SzT Tryz.prog 283 1 := ⟨Tryz.sizeOf283⟩
instance : SzT Tryz.prog 284 1 := ⟨Tryz.sizeOf284⟩
instance : SzT Tryz.prog 285 1 := ⟨Tryz.sizeOf285⟩
instance : SzT Tryz.prog 286 1 := ⟨Tryz.sizeOf286⟩
instance : SzT Tryz.prog 287 4 := ⟨Tryz.sizeOf287⟩
instance : SzT Tryz.prog 288 4 := ⟨Tryz.sizeOf288⟩
instance : SzT Tryz.prog 289 0 := ⟨Tryz.sizeOf289⟩
instance : SzT Tryz.prog 290 0 := ⟨Tryz.sizeOf290⟩
instance : SzT Tryz.prog 291 0 := ⟨Tryz.sizeOf291⟩
instance : SzT Tryz.prog 292 1 := ⟨Tryz.sizeOf292⟩
instance : SzT Tryz.prog 293 1 := ⟨Tryz.sizeOf293⟩
instance : SzT Tryz.prog 294 1 := ⟨Tryz.sizeOf294⟩
instance : SzT Tryz.prog 295 1 := ⟨Tryz.sizeOf295⟩
instance : SzT Tryz.prog 296 1 := ⟨Tryz.sizeOf296⟩
instance : SzT Tryz.prog 297 1 := ⟨Tryz.sizeOf297⟩
instance : SzT Tryz.prog 298 11 := ⟨Tryz.sizeOf298⟩
instance : SzT Tryz.prog 299 11 := ⟨Tryz.sizeOf299⟩
instance : InfoT Tryz.prog 1 1 8 [.nilFunc] := info_of (v := (.nilFunc)) (by kernel_rfl) rfl rfl
instance : ZeroV Tryz.prog 2 Int 0 := zeroV_of (by kernel_rfl)
instance : InfoT Tryz.prog 2 1 8 [.int .i64 0] := info_of (v := (.int .i64 0)) (by kernel_rfl) rfl rfl
instance : ZeroV Tryz.prog 3 Int 0 := zeroV_of (by kernel_rfl)
instance : InfoT Tryz.prog 3 1 8 [.int .i64 0] := info_of (v := (.int .i64 0)) (by kernel_rfl) rfl rfl
instance : ZeroV Tryz.prog 4 Bool false := zeroV_of (by kernel_rfl)
instance : InfoT Tryz.prog 4 1 1 [.bool false] := info_of (v := (.bool false)) (by kernel_rfl) rfl rfl
instance : InfoT Tryz.prog 5 1 1 [.int .u8 0] := info_of (v := (.int .u8 0)) (by kernel_rfl) rfl rfl
instance : InfoT Tryz.prog 6 1 1 [.int .u8 0] := info_of (v := (.int .u8 0)) (by kernel_rfl) rfl rfl
instance : InfoT Tryz.prog 7 4 24 [.int .i64 0, .int .i64 0, .bool false, .int .u8 0] := info_of (v := (.agg #[.int .i64 0, .int .i64 0, .bool false, .int .u8 0])) (by kernel_rfl) rfl rfl
instance : InfoT Tryz.prog 8 4 24 [.int .i64 0, .int .i64 0, .bool false, .int .u8 0] := info_of (v := (.agg #[.int .i64 0, .int .i64 0, .bool false, .int .u8 0])) (by kernel_rfl) rfl rfl
instance : ZeroV Tryz.prog 9 ByteArray ByteArray.empty := zeroV_of (by kernel_rfl)
instance : InfoT Tryz.prog 9 1 16 [.string ByteArray.empty] := info_of (v := (.string ByteArray.empty)) (by kernel_rfl) rfl rfl
instance : ZeroV Tryz.prog 10 ByteArray ByteArray.empty := zeroV_of (by kernel_rfl)
instance : InfoT Tryz.prog 10 1 16 [.string ByteArray.empty] := info_of (v := (.string ByteArray.empty)) (by kernel_rfl) rfl rfl
instance : ZeroV Tryz.prog 11 ByteArray ByteArray.empty := zeroV_of (by kernel_rfl)
instance : InfoT Tryz.prog 11 1 16 [.string ByteArray.empty] := info_of (v := (.string ByteArray.empty)) (by kernel_rfl) rfl rfl
instance : InfoT Tryz.prog 12 1 8 [.int .u64 0] := info_of (v := (.int .u64 0)) (by kernel_rfl) rfl rfl
instance : InfoT Tryz.prog 13 2 24 [.string ByteArray.empty, .int .u64 0] := info_of (v := (.agg #[.string ByteArray.empty, .int .u64 0])) (by kernel_rfl) rfl rfl
instance : InfoT Tryz.prog 14 2 24 [.string ByteArray.empty, .int .u64 0] := info_of (v := (.agg #[.string ByteArray.empty, .int .u64 0])) (by kernel_rfl) rfl rfl
instance : InfoT Tryz.prog 15 1 8 [.pointer none] := info_of (v := (.pointer none)) (by kernel_rfl) rfl rfl
instance : InfoT Tryz.prog 16 1 8 [.pointer none] := info_of (v := (.pointer none)) (by kernel_rfl) rfl rfl
instance : InfoT Tryz.prog 17 1 8 [.pointer none] := info_of (v := (.pointer none)) (by kernel_rfl) rfl rfl
instance : InfoT Tryz.prog 18 1 8 [.pointer none] := info_of (v := (.agg #[.pointer none])) (by kernel_rfl) rfl rfl
instance : InfoT Tryz.prog 19 1 8 [.pointer none] := info_of (v := (.agg #[.pointer none])) (by kernel_rfl) rfl rfl
instance : InfoT Tryz.prog 20 1 16 [.nilIface] := info_of (v := (.nilIface)) (by kernel_rfl) rfl rfl
instance : InfoT Tryz.prog 21 1 4 [.int .i32 0] := info_of (v := (.int .i32 0)) (by kernel_rfl) rfl rfl
instance : ZeroV Tryz.prog 22 SlV ⟨none, 0, 0⟩ := zeroV_of (by kernel_rfl)
instance : InfoT Tryz.prog 22 1 24 [.slice none 0 0] := info_of (v := (.slice none 0 0)) (by kernel_rfl) rfl rfl
instance : ZeroV Tryz.prog 23 SlV ⟨none, 0, 0⟩ := zeroV_of (by kernel_rfl)
instance : InfoT Tryz.prog 23 1 24 [.slice none 0 0] := info_of (v := (.slice none 0 0)) (by kernel_rfl) rfl rfl
instance : InfoT Tryz.prog 24 1 8 [.nilFunc] := info_of (v := (.nilFunc)) (by kernel_rfl) rfl rfl
instance : InfoT Tryz.prog 25 1 8 [.nilFunc] := info_of (v := (.nilFunc)) (by kernel_rfl) rfl rfl
instance : InfoT Tryz.prog 26 1 8 [.nilFunc] := info_of (v := (.nilFunc)) (by kernel_rfl) rfl rfl
instance : ZeroV Tryz.prog 27 SlV ⟨none, 0, 0⟩ := zeroV_of (by kernel_rfl)
instance : InfoT Tryz.prog 27 1 24 [.slice none 0 0] := info_of (v := (.slice none 0 0)) (by kernel_rfl) rfl rfl
instance : ZeroV Tryz.prog 28 Int 0 := zeroV_of (by kernel_rfl)
instance : InfoT Tryz.prog 28 1 8 [.int .i64 0] := info_of (v := (.int .i64 0)) (by kernel_rfl) rfl rfl
instance : InfoT Tryz.prog 30 1 8 [.nilFunc] := info_of (v := (.nilFunc)) (by kernel_rfl) rfl rfl
instance : ZeroV Tryz.prog 31 SlV ⟨none, 0, 0⟩ := zeroV_of (by kernel_rfl)
instance : InfoT Tryz.prog 31 1 24 [.slice none 0 0] := info_of (v := (.slice none 0 0)) (by kernel_rfl) rfl rfl
instance : InfoT Tryz.prog 33 1 8 [.nilFunc] := info_of (v := (.nilFunc)) (by kernel_rfl) rfl rfl
instance : InfoT Tryz.prog 35 1 8 [.nilFunc] := info_of (v := (.nilFunc)) (by kernel_rfl) rfl rfl
instance : InfoT Tryz.prog 36 1 8 [.nilFunc] := info_of (v := (.nilFunc)) (by kernel_rfl) rfl rfl
instance : InfoT Tryz.prog 37 1 8 [.nilFunc] := info_of (v := (.nilFunc)) (by kernel_rfl) rfl rfl
instance : ZeroV Tryz.prog 38 SlV ⟨none, 0, 0⟩ := zeroV_of (by kernel_rfl)
instance : InfoT Tryz.prog 38 1 24 [.slice none 0 0] := info_of (v := (.slice none 0 0)) (by kernel_rfl) rfl rfl
instance : InfoT Tryz.prog 39 3 24 [.int .i64 0, .int .i64 0, .int .i64 0] := info_of (v := (.agg #[.int .i64 0, .int .i64 0, .int .i64 0])) (by kernel_rfl) rfl rfl
instance : InfoT Tryz.prog 40 3 24 [.int .i64 0, .int .i64 0, .int .i64 0] := info_of (v := (.agg #[.int .i64 0, .int .i64 0, .int .i64 0])) (by kernel_rfl) rfl rfl
instance : InfoT Tryz.prog 41 1 8 [.nilFunc] := info_of (v := (.nilFunc)) (by kernel_rfl) rfl rfl
instance : InfoT Tryz.prog 42 1 8 [.nilFunc] := info_of (v := (.nilFunc)) (by kernel_rfl) rfl rfl
instance : ZeroV Tryz.prog 43 SlV ⟨none, 0, 0⟩ := zeroV_of (by kernel_rfl)
instance : InfoT Tryz.prog 43 1 24 [.slice none 0 0] := info_of (v := (.slice none 0 0)) (by kernel_rfl) rfl rfl
instance : InfoT Tryz.prog 44 1 24 [.slice none 0 0] := info_of (v := (.agg #[.slice none 0 0])) (by kernel_rfl) rfl rfl
instance : InfoT Tryz.prog 45 1 24 [.slice none 0 0] := info_of (v := (.agg #[.slice none 0 0])) (by kernel_rfl) rfl rfl
instance : InfoT Tryz.prog 47 1 8 [.nilFunc] := info_of (v := (.nilFunc)) (by kernel_rfl) rfl rfl
instance : InfoT Tryz.prog 48 1 8 [.nilFunc] := info_of (v := (.nilFunc)) (by kernel_rfl) rfl rfl
instance : InfoT Tryz.prog 49 1 8 [.nilFunc] := info_of (v := (.nilFunc)) (by kernel_rfl) rfl rfl
instance : InfoT Tryz.prog 50 1 8 [.nilFunc] := info_of (v := (.nilFunc)) (by kernel_rfl) rfl rfl
instance : InfoT Tryz.prog 51 1 8 [.nilFunc] := info_of (v := (.nilFunc)) (by kernel_rfl) rfl rfl
instance : InfoT Tryz.prog 52 1 8 [.nilFunc] := info_of (v := (.nilFunc)) (by kernel_rfl) rfl rfl
instance : ZeroV Tryz.prog 53 SlV ⟨none, 0, 0⟩ := zeroV_of (by kernel_rfl)
instance : InfoT Tryz.prog 53 1 24 [.slice none 0 0] := info_of (v := (.slice none 0 0)) (by kernel_rfl) rfl rfl
instance : InfoT Tryz.prog 54 1 8 [.nilFunc] := info_of (v := (.nilFunc)) (by kernel_rfl) rfl rfl
instance : InfoT Tryz.prog 55 2 40 [.string ByteArray.empty, .slice none 0 0] := info_of (v := (.agg #[.string ByteArray.empty, .slice none 0 0])) (by kernel_rfl) rfl rfl
instance : InfoT Tryz.prog 56 2 40 [.string ByteArray.empty, .slice none 0 0] := info_of (v := (.agg #[.string ByteArray.empty, .slice none 0 0])) (by kernel_rfl) rfl rfl
instance : InfoT Tryz.prog 57 3 56 [.slice none 0 0, .int .i64 0, .slice none 0 0] := info_of (v := (.agg #[.slice none 0 0, .int .i64 0, .slice none 0 0])) (by kernel_rfl) rfl rfl
instance : InfoT Tryz.prog 58 3 56 [.slice none 0 0, .int .i64 0, .slice none 0 0] := info_of (v := (.agg #[.slice none 0 0, .int .i64 0, .slice none 0 0])) (by kernel_rfl) rfl rfl
instance : ZeroV Tryz.prog 59 SlV ⟨none, 0, 0⟩ := zeroV_of (by kernel_rfl)
instance : InfoT Tryz.prog 59 1 24 [.slice none 0 0] := info_of (v := (.slice none 0 0)) (by kernel_rfl) rfl rfl
instance : InfoT Tryz.prog 60 2 32 [.int .i32 0, .slice none 0 0] := info_of (v := (.agg #[.int .i32 0, .slice none 0 0])) (by kernel_rfl) rfl rfl
instance : InfoT Tryz.prog 61 2 32 [.int .i32 0, .slice none 0 0] := info_of (v := (.agg #[.int .i32 0, .slice none 0 0])) (by kernel_rfl) rfl rfl
instance : ZeroV Tryz.prog 62 SlV ⟨none, 0, 0⟩ := zeroV_of (by kernel_rfl)
instance : InfoT Tryz.prog 62 1 24 [.slice none 0 0] := info_of (v := (.slice none 0 0)) (by kernel_rfl) rfl rfl
instance : InfoT Tryz.prog 63 2 48 [.slice none 0 0, .slice none 0 0] := info_of (v := (.agg #[.slice none 0 0, .slice none 0 0])) (by kernel_rfl) rfl rfl
instance : InfoT Tryz.prog 64 2 48 [.slice none 0 0, .slice none 0 0] := info_of (v := (.agg #[.slice none 0 0, .slice none 0 0])) (by kernel_rfl) rfl rfl
instance : InfoT Tryz.prog 65 1 8 [.nilFunc] := info_of (v := (.nilFunc)) (by kernel_rfl) rfl rfl
instance : InfoT Tryz.prog 66 1 8 [.nilFunc] := info_of (v := (.nilFunc)) (by kernel_rfl) rfl rfl
instance : InfoT Tryz.prog 67 3 40 [.int .i32 0, .slice none 0 0, .int .i64 0] := info_of (v := (.agg #[.int .i32 0, .slice none 0 0, .int .i64 0])) (by kernel_rfl) rfl rfl
instance : InfoT Tryz.prog 68 3 40 [.int .i32 0, .slice none 0 0, .int .i64 0] := info_of (v := (.agg #[.int .i32 0, .slice none 0 0, .int .i64 0])) (by kernel_rfl) rfl rfl
instance : ZeroV Tryz.prog 69 SlV ⟨none, 0, 0⟩ := zeroV_of (by kernel_rfl)
instance : InfoT Tryz.prog 69 1 24 [.slice none 0 0] := info_of (v := (.slice none 0 0)) (by kernel_rfl) rfl rfl
instance : InfoT Tryz.prog 71 1 8 [.nilFunc] := info_of (v := (.nilFunc)) (by kernel_rfl) rfl rfl
instance : InfoT Tryz.prog 72 1 8 [.nilFunc] := info_of (v := (.nilFunc)) (by kernel_rfl) rfl rfl
instance : InfoT Tryz.prog 73 1 8 [.nilFunc] := info_of (v := (.nilFunc)) (by kernel_rfl) rfl rfl
instance : InfoT Tryz.prog 74 1 8 [.nilFunc] := info_of (v := (.nilFunc)) (by kernel_rfl) rfl rfl
instance : InfoT Tryz.prog 75 1 8 [.nilFunc] := info_of (v := (.nilFunc)) (by kernel_rfl) rfl rfl
instance : InfoT Tryz.prog 76 1 8 [.nilFunc] := info_of (v := (.nilFunc)) (by kernel_rfl) rfl rfl
instance : InfoT Tryz.prog 77 1 8 [.nilFunc] := info_of (v := (.nilFunc)) (by kernel_rfl) rfl rfl
instance : ZeroV Tryz.prog 78 SlV ⟨none, 0, 0⟩ := zeroV_of (by kernel_rfl)
instance : InfoT Tryz.prog 78 1 24 [.slice none 0 0] := info_of (v := (.slice none 0 0)) (by kernel_rfl) rfl rfl
instance : InfoT Tryz.prog 79 1 8 [.nilFunc] := info_of (v := (.nilFunc)) (by kernel_rfl) rfl rfl
instance : InfoT Tryz.prog 80 4 96 [.slice none 0 0, .slice none 0 0, .slice none 0 0, .slice none 0 0] := info_of (v := (.agg #[.slice none 0 0, .slice none 0 0, .slice none 0 0, .slice none 0 0])) (by kernel_rfl) rfl rfl
instance : InfoT Tryz.prog 81 4 96 [.slice none 0 0, .slice none 0 0, .slice none 0 0, .slice none 0 0] := info_of (v := (.agg #[.slice none 0 0, .slice none 0 0, .slice none 0 0, .slice none 0 0])) (by kernel_rfl) rfl rfl
instance : InfoT Tryz.prog 83 1 8 [.nilFunc] := info_of (v := (.nilFunc)) (by kernel_rfl) rfl rfl
instance : InfoT Tryz.prog 84 1 8 [.nilFunc] := info_of (v := (.nilFunc)) (by kernel_rfl) rfl rfl
instance : ZeroV Tryz.prog 85 SlV ⟨none, 0, 0⟩ := zeroV_of (by kernel_rfl)
instance : InfoT Tryz.prog 85 1 24 [.slice none 0 0] := info_of (v := (.slice none 0 0)) (by kernel_rfl) rfl rfl
instance : InfoT Tryz.prog 86 2 40 [.string ByteArray.empty, .slice none 0 0] := info_of (v := (.agg #[.string ByteArray.empty, .slice none 0 0])) (by kernel_rfl) rfl rfl
instance : InfoT Tryz.prog 87 2 40 [.string ByteArray.empty, .slice none 0 0] := info_of (v := (.agg #[.string ByteArray.empty, .slice none 0 0])) (by kernel_rfl) rfl rfl
instance : InfoT Tryz.prog 89 1 8 [.nilFunc] := info_of (v := (.nilFunc)) (by kernel_rfl) rfl rfl
instance : InfoT Tryz.prog 90 1 8 [.nilFunc] := info_of (v := (.nilFunc)) (by kernel_rfl) rfl rfl
instance : InfoT Tryz.prog 91 1 8 [.nilFunc] := info_of (v := (.nilFunc)) (by kernel_rfl) rfl rfl
instance : InfoT Tryz.prog 92 1 8 [.nilFunc] := info_of (v := (.nilFunc)) (by kernel_rfl) rfl rfl
instance : InfoT Tryz.prog 93 1 8 [.nilFunc] := info_of (v := (.nilFunc)) (by kernel_rfl) rfl rfl
instance : InfoT Tryz.prog 94 1 8 [.nilFunc] := info_of (v := (.nilFunc)) (by kernel_rfl) rfl rfl
instance : InfoT Tryz.prog 95 1 8 [.nilFunc] := info_of (v := (.nilFunc)) (by kernel_rfl) rfl rfl
instance : InfoT Tryz.prog 96 1 8 [.nilFunc] := info_of (v := (.nilFunc)) (by kernel_rfl) rfl rfl
instance : InfoT Tryz.prog 97 4 32 [.int .i64 0, .int .i64 0, .int .i64 0, .int .i64 0] := info_of (v := (.agg #[.int .i64 0, .int .i64 0, .int .i64 0, .int .i64 0])) (by kernel_rfl) rfl rfl
instance : InfoT Tryz.prog 98 4 32 [.int .i64 0, .int .i64 0, .int .i64 0, .int .i64 0] := info_of (v := (.agg #[.int .i64 0, .int .i64 0, .int .i64 0, .int .i64 0])) (by kernel_rfl) rfl rfl
instance : InfoT Tryz.prog 100 1 8 [.nilFunc] := info_of (v := (.nilFunc)) (by kernel_rfl) rfl rfl
instance : InfoT Tryz.prog 101 1 8 [.nilFunc] := info_of (v := (.nilFunc)) (by kernel_rfl) rfl rfl
instance : InfoT Tryz.prog 102 1 8 [.nilFunc] := info_of (v := (.nilFunc)) (by kernel_rfl) rfl rfl
instance : InfoT Tryz.prog 103 1 8 [.nilFunc] := info_of (v := (.nilFunc)) (by kernel_rfl) rfl rfl
instance : InfoT Tryz.prog 104 1 8 [.nilFunc] := info_of (v := (.nilFunc)) (by kernel_rfl) rfl rfl
instance : InfoT Tryz.prog 106 1 8 [.nilFunc] := info_of (v := (.nilFunc)) (by kernel_rfl) rfl rfl
instance : InfoT Tryz.prog 107 1 8 [.nilFunc] := info_of (v := (.nilFunc)) (by kernel_rfl) rfl rfl
instance : InfoT Tryz.prog 108 2 16 [.int .i64 0, .int .i32 0] := info_of (v := (.agg #[.int .i64 0, .int .i32 0])) (by kernel_rfl) rfl rfl
instance : InfoT Tryz.prog 109 2 16 [.int .i64 0, .int .i32 0] := info_of (v := (.agg #[.int .i64 0, .int .i32 0])) (by kernel_rfl) rfl rfl
instance : InfoT Tryz.prog 110 1 8 [.nilFunc] := info_of (v := (.nilFunc)) (by kernel_rfl) rfl rfl
instance : InfoT Tryz.prog 111 1 8 [.nilFunc] := info_of (v := (.nilFunc)) (by kernel_rfl) rfl rfl
instance : InfoT Tryz.prog 113 1 8 [.nilFunc] := info_of (v := (.nilFunc)) (by kernel_rfl) rfl rfl
instance : InfoT Tryz.prog 114 1 8 [.nilFunc] := info_of (v := (.nilFunc)) (by kernel_rfl) rfl rfl
instance : ZeroV Tryz.prog 115 SlV ⟨none, 0, 0⟩ := zeroV_of (by kernel_rfl)
instance : InfoT Tryz.prog 115 1 24 [.slice none 0 0] := info_of (v := (.slice none 0 0)) (by kernel_rfl) rfl rfl
instance : ZeroV Tryz.prog 116 SlV ⟨none, 0, 0⟩ := zeroV_of (by kernel_rfl)
instance : InfoT Tryz.prog 116 1 24 [.slice none 0 0] := info_of (v := (.slice none 0 0)) (by kernel_rfl) rfl rfl
instance : InfoT Tryz.prog 117 1 8 [.nilFunc] := info_of (v := (.nilFunc)) (by kernel_rfl) rfl rfl
instance : InfoT Tryz.prog 118 1 8 [.nilFunc] := info_of (v := (.nilFunc)) (by kernel_rfl) rfl rfl
instance : InfoT Tryz.prog 119 1 8 [.nilFunc] := info_of (v := (.nilFunc)) (by kernel_rfl) rfl rfl
instance : ZeroV Tryz.prog 120 SlV ⟨none, 0, 0⟩ := zeroV_of (by kernel_rfl)
instance : InfoT Tryz.prog 120 1 24 [.slice none 0 0] := info_of (v := (.slice none 0 0)) (by kernel_rfl) rfl rfl
instance : InfoT Tryz.prog 121 1 8 [.nilFunc] := info_of (v := (.nilFunc)) (by kernel_rfl) rfl rfl
instance : InfoT Tryz.prog 122 1 8 [.nilFunc] := info_of (v := (.nilFunc)) (by kernel_rfl) rfl rfl
instance : InfoT Tryz.prog 123 1 8 [.nilFunc] := info_of (v := (.nilFunc)) (by kernel_rfl) rfl rfl
instance : InfoT Tryz.prog 124 1 8 [.nilFunc] := info_of (v := (.nilFunc)) (by kernel_rfl) rfl rfl
instance : InfoT Tryz.prog 125 1 8 [.nilFunc] := info_of (v := (.nilFunc)) (by kernel_rfl) rfl rfl
instance : InfoT Tryz.prog 126 1 8 [.nilFunc] := info_of (v := (.nilFunc)) (by kernel_rfl) rfl rfl
instance : InfoT Tryz.prog 127 1 8 [.nilFunc] := info_of (v := (.nilFunc)) (by kernel_rfl) rfl rfl
instance : InfoT Tryz.prog 129 1 8 [.pointer none] := info_of (v := (.pointer none)) (by kernel_rfl) rfl rfl
instance : InfoT Tryz.prog 130 2 48 [.slice none 0 0, .slice none 0 0] := info_of (v := (.agg #[.slice none 0 0, .slice none 0 0])) (by kernel_rfl) rfl rfl
instance : InfoT Tryz.prog 131 2 48 [.slice none 0 0, .slice none 0 0] := info_of (v := (.agg #[.slice none 0 0, .slice none 0 0])) (by kernel_rfl) rfl rfl
instance : InfoT Tryz.prog 132 1 8 [.nilFunc] := info_of (v := (.nilFunc)) (by kernel_rfl) rfl rfl
instance : InfoT Tryz.prog 133 1 8 [.nilFunc] := info_of (v := (.nilFunc)) (by kernel_rfl) rfl rfl
instance : ZeroV Tryz.prog 134 Int 0 := zeroV_of (by kernel_rfl)
instance : InfoT Tryz.prog 134 1 8 [.int .i64 0] := info_of (v := (.int .i64 0)) (by kernel_rfl) rfl rfl
instance : InfoT Tryz.prog 135 4 40 [.string ByteArray.empty, .int .i64 0, .int .i64 0, .int .i64 0] := info_of (v := (.agg #[.string ByteArray.empty, .int .i64 0, .int .i64 0, .int .i64 0])) (by kernel_rfl) rfl rfl
instance : InfoT Tryz.prog 136 4 40 [.string ByteArray.empty, .int .i64 0, .int .i64 0, .int .i64 0] := info_of (v := (.agg #[.string ByteArray.empty, .int .i64 0, .int .i64 0, .int .i64 0])) (by kernel_rfl) rfl rfl
instance : InfoT Tryz.prog 138 1 8 [.nilFunc] := info_of (v := (.nilFunc)) (by kernel_rfl) rfl rfl
instance : InfoT Tryz.prog 139 1 8 [.nilFunc] := info_of (v := (.nilFunc)) (by kernel_rfl) rfl rfl
instance : InfoT Tryz.prog 140 1 8 [.nilFunc] := info_of (v := (.nilFunc)) (by kernel_rfl) rfl rfl
instance : InfoT Tryz.prog 141 1 8 [.nilFunc] := info_of (v := (.nilFunc)) (by kernel_rfl) rfl rfl
instance : InfoT Tryz.prog 142 1 8 [.nilFunc] := info_of (v := (.nilFunc)) (by kernel_rfl) rfl rfl
instance : InfoT Tryz.prog 143 1 8 [.nilFunc] := info_of (v := (.nilFunc)) (by kernel_rfl) rfl rfl
instance : InfoT Tryz.prog 144 1 8 [.nilFunc] := info_of (v := (.nilFunc)) (by kernel_rfl) rfl rfl
instance : InfoT Tryz.prog 145 1 8 [.nilFunc] := info_of (v := (.nilFunc)) (by kernel_rfl) rfl rfl
instance : InfoT Tryz.prog 147 1 8 [.nilFunc] := info_of (v := (.nilFunc)) (by kernel_rfl) rfl rfl
instance : InfoT Tryz.prog 148 1 8 [.nilFunc] := info_of (v := (.nilFunc)) (by kernel_rfl) rfl rfl
instance : InfoT Tryz.prog 149 1 8 [.nilFunc] := info_of (v := (.nilFunc)) (by kernel_rfl) rfl rfl
instance : InfoT Tryz.prog 150 1 8 [.nilFunc] := info_of (v := (.nilFunc)) (by kernel_rfl) rfl rfl
instance : InfoT Tryz.prog 151 1 8 [.nilFunc] := info_of (v := (.nilFunc)) (by kernel_rfl) rfl rfl
instance : InfoT Tryz.prog 152 3 64 [.string ByteArray.empty, .slice none 0 0, .slice none 0 0] := info_of (v := (.agg #[.string ByteArray.empty, .slice none 0 0, .slice none 0 0])) (by kernel_rfl) rfl rfl
instance : InfoT Tryz.prog 153 3 64 [.string ByteArray.empty, .slice none 0 0, .slice none 0 0] := info_of (v := (.agg #[.string ByteArray.empty, .slice none 0 0, .slice none 0 0])) (by kernel_rfl) rfl rfl
instance : InfoT Tryz.prog 155 1 8 [.nilFunc] := info_of (v := (.nilFunc)) (by kernel_rfl) rfl rfl
instance : InfoT Tryz.prog 156 1 8 [.nilFunc] := info_of (v := (.nilFunc)) (by kernel_rfl) rfl rfl
instance : ZeroV Tryz.prog 157 SlV ⟨none, 0, 0⟩ := zeroV_of (by kernel_rfl)
instance : InfoT Tryz.prog 157 1 24 [.slice none 0 0] := info_of (v := (.slice none 0 0)) (by kernel_rfl) rfl rfl
instance : ZeroV Tryz.prog 158 SlV ⟨none, 0, 0⟩ := zeroV_of (by kernel_rfl)
instance : InfoT Tryz.prog 158 1 24 [.slice none 0 0] := info_of (v := (.slice none 0 0)) (by kernel_rfl) rfl rfl
instance : InfoT Tryz.prog 159 1 8 [.nilFunc] := info_of (v := (.nilFunc)) (by kernel_rfl) rfl rfl
instance : InfoT Tryz.prog 160 1 8 [.nilFunc] := info_of (v := (.nilFunc)) (by kernel_rfl) rfl rfl
instance : InfoT Tryz.prog 161 1 8 [.nilFunc] := info_of (v := (.nilFunc)) (by kernel_rfl) rfl rfl
instance : InfoT Tryz.prog 162 1 8 [.nilFunc] := info_of (v := (.nilFunc)) (by kernel_rfl) rfl rfl
instance : InfoT Tryz.prog 163 1 8 [.nilFunc] := info_of (v := (.nilFunc)) (by kernel_rfl) rfl rfl
instance : InfoT Tryz.prog 164 1 8 [.nilFunc] := info_of (v := (.nilFunc)) (by kernel_rfl) rfl rfl
instance : InfoT Tryz.prog 165 1 8 [.nilFunc] := info_of (v := (.nilFunc)) (by kernel_rfl) rfl rfl
instance : InfoT Tryz.prog 166 1 8 [.nilFunc] := info_of (v := (.nilFunc)) (by kernel_rfl) rfl rfl
instance : InfoT Tryz.prog 167 1 8 [.nilFunc] := info_of (v := (.nilFunc)) (by kernel_rfl) rfl rfl
instance : InfoT Tryz.prog 168 1 8 [.nilFunc] := info_of (v := (.nilFunc)) (by kernel_rfl) rfl rfl
instance : InfoT Tryz.prog 169 1 8 [.nilFunc] := info_of (v := (.nilFunc)) (by kernel_rfl) rfl rfl
instance : InfoT Tryz.prog 171 2 2 [.int .u8 0, .int .u8 0] := info_of (v := (.agg #[.int .u8 0, .int .u8 0])) (by kernel_rfl) rfl rfl
instance : InfoT Tryz.prog 172 2 2 [.int .u8 0, .int .u8 0] := info_of (v := (.agg #[.int .u8 0, .int .u8 0])) (by kernel_rfl) rfl rfl
instance : InfoT Tryz.prog 173 32 32 [.int .u8 0, .int .u8 0, .int .u8 0, .int .u8 0, .int .u8 0, .int .u8 0, .int .u8 0, .int .u8 0, .int .u8 0, .int .u8 0, .int .u8 0, .int .u8 0, .int .u8 0, .int .u8 0, .int .u8 0, .int .u8 0, .int .u8 0, .int .u8 0, .int .u8 0, .int .u8 0, .int .u8 0, .int .u8 0, .int .u8 0, .int .u8 0, .int .u8 0, .int .u8 0, .int .u8 0, .int .u8 0, .int .u8 0, .int .u8 0, .int .u8 0, .int .u8 0] := info_of (v := (.agg #[.int .u8 0, .int .u8 0, .int .u8 0, .int .u8 0, .int .u8 0, .int .u8 0, .int .u8 0, .int .u8 0, .int .u8 0, .int .u8 0, .int .u8 0, .int .u8 0, .int .u8 0, .int .u8 0, .int .u8 0, .int .u8 0, .int .u8 0, .int .u8 0, .int .u8 0, .int .u8 0, .int .u8 0, .int .u8 0, .int .u8 0, .int .u8 0, .int .u8 0, .int .u8 0, .int .u8 0, .int .u8 0, .int .u8 0, .int .u8 0, .int .u8 0, .int .u8 0])) (by kernel_rfl) rfl rfl
instance : InfoT Tryz.prog 174 1 8 [.int .u64 0] := info_of (v := (.int .u64 0)) (by kernel_rfl) rfl rfl
instance : InfoT Tryz.prog 175 1 8 [.nilFunc] := info_of (v := (.nilFunc)) (by kernel_rfl) rfl rfl
instance : InfoT Tryz.prog 176 1 8 [.map none] := info_of (v := (.map none)) (by kernel_rfl) rfl rfl
instance : ZeroV Tryz.prog 177 SlV ⟨none, 0, 0⟩ := zeroV_of (by kernel_rfl)
instance : InfoT Tryz.prog 177 1 24 [.slice none 0 0] := info_of (v := (.slice none 0 0)) (by kernel_rfl) rfl rfl
instance : InfoT Tryz.prog 178 3 56 [.slice none 0 0, .int .i64 0, .slice none 0 0] := info_of (v := (.agg #[.slice none 0 0, .int .i64 0, .slice none 0 0])) (by kernel_rfl) rfl rfl
instance : InfoT Tryz.prog 179 3 56 [.slice none 0 0, .int .i64 0, .slice none 0 0] := info_of (v := (.agg #[.slice none 0 0, .int .i64 0, .slice none 0 0])) (by kernel_rfl) rfl rfl
instance : InfoT Tryz.prog 180 1 8 [.nilFunc] := info_of (v := (.nilFunc)) (by kernel_rfl) rfl rfl
instance : InfoT Tryz.prog 181 1 8 [.nilFunc] := info_of (v := (.nilFunc)) (by kernel_rfl) rfl rfl
instance : InfoT Tryz.prog 182 1 8 [.nilFunc] := info_of (v := (.nilFunc)) (by kernel_rfl) rfl rfl
instance : InfoT Tryz.prog 183 1 8 [.nilFunc] := info_of (v := (.nilFunc)) (by kernel_rfl) rfl rfl
instance : InfoT Tryz.prog 184 1 8 [.nilFunc] := info_of (v := (.nilFunc)) (by kernel_rfl) rfl rfl
instance : InfoT Tryz.prog 185 1 8 [.nilFunc] := info_of (v := (.nilFunc)) (by kernel_rfl) rfl rfl
instance : InfoT Tryz.prog 186 1 8 [.nilFunc] := info_of (v := (.nilFunc)) (by kernel_rfl) rfl rfl
instance : InfoT Tryz.prog 187 1 8 [.nilFunc] := info_of (v := (.nilFunc)) (by kernel_rfl) rfl rfl
instance : InfoT Tryz.prog 188 1 8 [.nilFunc] := info_of (v := (.nilFunc)) (by kernel_rfl) rfl rfl
instance : InfoT Tryz.prog 189 1 8 [.nilFunc] := info_of (v := (.nilFunc)) (by kernel_rfl) rfl rfl
instance : InfoT Tryz.prog 190 1 8 [.nilFunc] := info_of (v := (.nilFunc)) (by kernel_rfl) rfl rfl
instance : InfoT Tryz.prog 191 1 8 [.nilFunc] := info_of (v := (.nilFunc)) (by kernel_rfl) rfl rfl
instance : InfoT Tryz.prog 192 1 8 [.nilFunc] := info_of (v := (.nilFunc)) (by kernel_rfl) rfl rfl
instance : InfoT Tryz.prog 193 1 8 [.nilFunc] := info_of (v := (.nilFunc)) (by kernel_rfl) rfl rfl
instance : InfoT Tryz.prog 194 1 8 [.nilFunc] := info_of (v := (.nilFunc)) (by kernel_rfl) rfl rfl
instance : InfoT Tryz.prog 195 1 8 [.nilFunc] := info_of (v := (.nilFunc)) (by kernel_rfl) rfl rfl
instance : InfoT Tryz.prog 197 1 8 [.nilFunc] := info_of (v := (.nilFunc)) (by kernel_rfl) rfl rfl
instance : InfoT Tryz.prog 198 1 8 [.nilFunc] := info_of (v := (.nilFunc)) (by kernel_rfl) rfl rfl
instance : InfoT Tryz.prog 199 1 8 [.nilFunc] := info_of (v := (.nilFunc)) (by kernel_rfl) rfl rfl
instance : InfoT Tryz.prog 200 1 8 [.nilFunc] := info_of (v := (.nilFunc)) (by kernel_rfl) rfl rfl
instance : InfoT Tryz.prog 201 1 8 [.nilFunc] := info_of (v := (.nilFunc)) (by kernel_rfl) rfl rfl
instance : InfoT Tryz.prog 202 1 8 [.nilFunc] := info_of (v := (.nilFunc)) (by kernel_rfl) rfl rfl
instance : InfoT Tryz.prog 203 1 8 [.int .u64 0] := info_of (v := (.int .u64 0)) (by kernel_rfl) rfl rfl
instance : ZeroV Tryz.prog 204 SlV ⟨none, 0, 0⟩ := zeroV_of (by kernel_rfl)
instance : InfoT Tryz.prog 204 1 24 [.slice none 0 0] := info_of (v := (.slice none 0 0)) (by kernel_rfl) rfl rfl
instance : InfoT Tryz.prog 205 1 8 [.nilFunc] := info_of (v := (.nilFunc)) (by kernel_rfl) rfl rfl
instance : InfoT Tryz.prog 206 1 8 [.nilFunc] := info_of (v := (.nilFunc)) (by kernel_rfl) rfl rfl
instance : InfoT Tryz.prog 207 1 8 [.nilFunc] := info_of (v := (.nilFunc)) (by kernel_rfl) rfl rfl
instance : InfoT Tryz.prog 209 1 8 [.nilFunc] := info_of (v := (.nilFunc)) (by kernel_rfl) rfl rfl
instance : InfoT Tryz.prog 210 4 32 [.int .i64 0, .int .i32 0, .int .i64 0, .int .i32 0] := info_of (v := (.agg #[.int .i64 0, .int .i32 0, .int .i64 0, .int .i32 0])) (by kernel_rfl) rfl rfl
instance : InfoT Tryz.prog 211 4 32 [.int .i64 0, .int .i32 0, .int .i64 0, .int .i32 0] := info_of (v := (.agg #[.int .i64 0, .int .i32 0, .int .i64 0, .int .i32 0])) (by kernel_rfl) rfl rfl
instance : InfoT Tryz.prog 212 7 72 [.int .i64 0, .int .i32 0, .int .i64 0, .int .i32 0, .slice none 0 0, .int .i64 0, .int .i64 0] := info_of (v := (.agg #[.int .i64 0, .int .i32 0, .int .i64 0, .int .i32 0, .slice none 0 0, .int .i64 0, .int .i64 0])) (by kernel_rfl) rfl rfl
instance : InfoT Tryz.prog 213 7 72 [.int .i64 0, .int .i32 0, .int .i64 0, .int .i32 0, .slice none 0 0, .int .i64 0, .int .i64 0] := info_of (v := (.agg #[.int .i64 0, .int .i32 0, .int .i64 0, .int .i32 0, .slice none 0 0, .int .i64 0, .int .i64 0])) (by kernel_rfl) rfl rfl
instance : InfoT Tryz.prog 215 1 8 [.nilFunc] := info_of (v := (.nilFunc)) (by kernel_rfl) rfl rfl
instance : InfoT Tryz.prog 216 1 8 [.nilFunc] := info_of (v := (.nilFunc)) (by kernel_rfl) rfl rfl
instance : InfoT Tryz.prog 217 1 8 [.nilFunc] := info_of (v := (.nilFunc)) (by kernel_rfl) rfl rfl
instance : InfoT Tryz.prog 218 1 8 [.nilFunc] := info_of (v := (.nilFunc)) (by kernel_rfl) rfl rfl
instance : InfoT Tryz.prog 219 1 8 [.nilFunc] := info_of (v := (.nilFunc)) (by kernel_rfl) rfl rfl
instance : InfoT Tryz.prog 220 1 8 [.nilFunc] := info_of (v := (.nilFunc)) (by kernel_rfl) rfl rfl
instance : InfoT Tryz.prog 222 1 8 [.nilFunc] := info_of (v := (.nilFunc)) (by kernel_rfl) rfl rfl
instance : InfoT Tryz.prog 224 1 8 [.nilFunc] := info_of (v := (.nilFunc)) (by kernel_rfl) rfl rfl
instance : InfoT Tryz.prog 225 1 8 [.nilFunc] := info_of (v := (.nilFunc)) (by kernel_rfl) rfl rfl
instance : InfoT Tryz.prog 226 1 8 [.nilFunc] := info_of (v := (.nilFunc)) (by kernel_rfl) rfl rfl
instance : InfoT Tryz.prog 227 1 8 [.nilFunc] := info_of (v := (.nilFunc)) (by kernel_rfl) rfl rfl
instance : InfoT Tryz.prog 228 1 8 [.nilFunc] := info_of (v := (.nilFunc)) (by kernel_rfl) rfl rfl
instance : InfoT Tryz.prog 229 1 8 [.nilFunc] := info_of (v := (.nilFunc)) (by kernel_rfl) rfl rfl
instance : InfoT Tryz.prog 230 1 8 [.nilFunc] := info_of (v := (.nilFunc)) (by kernel_rfl) rfl rfl
instance : InfoT Tryz.prog 231 1 8 [.nilFunc] := info_of (v := (.nilFunc)) (by kernel_rfl) rfl rfl
instance : InfoT Tryz.prog 232 1 8 [.nilFunc] := info_of (v := (.nilFunc)) (by kernel_rfl) rfl rfl
instance : InfoT Tryz.prog 233 1 8 [.nilFunc] := info_of (v := (.nilFunc)) (by kernel_rfl) rfl rfl
instance : InfoT Tryz.prog 234 1 8 [.nilFunc] := info_of (v := (.nilFunc)) (by kernel_rfl) rfl rfl
instance : InfoT Tryz.prog 235 1 8 [.nilFunc] := info_of (v := (.nilFunc)) (by kernel_rfl) rfl rfl
instance : InfoT Tryz.prog 236 1 8 [.nilFunc] := info_of (v := (.nilFunc)) (by kernel_rfl) rfl rfl
instance : InfoT Tryz.prog 237 1 8 [.nilFunc] := info_of (v := (.nilFunc)) (by kernel_rfl) rfl rfl
instance : ZeroV Tryz.prog 238 Int 0 := zeroV_of (by kernel_rfl)
instance : InfoT Tryz.prog 238 1 8 [.int .i64 0] := info_of (v := (.int .i64 0)) (by kernel_rfl) rfl rfl
instance : InfoT Tryz.prog 240 1 8 [.nilFunc] := info_of (v := (.nilFunc)) (by kernel_rfl) rfl rfl
instance : InfoT Tryz.prog 241 1 8 [.nilFunc] := info_of (v := (.nilFunc)) (by kernel_rfl) rfl rfl
instance : InfoT Tryz.prog 242 1 8 [.nilFunc] := info_of (v := (.nilFunc)) (by kernel_rfl) rfl rfl
instance : InfoT Tryz.prog 243 1 8 [.nilFunc] := info_of (v := (.nilFunc)) (by kernel_rfl) rfl rfl
instance : InfoT Tryz.prog 244 1 8 [.nilFunc] := info_of (v := (.nilFunc)) (by kernel_rfl) rfl rfl
instance : InfoT Tryz.prog 245 1 8 [.nilFunc] := info_of (v := (.nilFunc)) (by kernel_rfl) rfl rfl
instance : InfoT Tryz.prog 246 1 4 [.int .u32 0] := info_of (v := (.int .u32 0)) (by kernel_rfl) rfl rfl
instance : InfoT Tryz.prog 247 1 8 [.nilFunc] := info_of (v := (.nilFunc)) (by kernel_rfl) rfl rfl
instance : InfoT Tryz.prog 248 1 8 [.map none] := info_of (v := (.map none)) (by kernel_rfl) rfl rfl
instance : InfoT Tryz.prog 249 1 8 [.nilFunc] := info_of (v := (.nilFunc)) (by kernel_rfl) rfl rfl
instance : InfoT Tryz.prog 250 1 8 [.map none] := info_of (v := (.map none)) (by kernel_rfl) rfl rfl
instance : InfoT Tryz.prog 251 1 8 [.nilFunc] := info_of (v := (.nilFunc)) (by kernel_rfl) rfl rfl
instance : InfoT Tryz.prog 252 1 8 [.nilFunc] := info_of (v := (.nilFunc)) (by kernel_rfl) rfl rfl
instance : InfoT Tryz.prog 253 1 8 [.nilFunc] := info_of (v := (.nilFunc)) (by kernel_rfl) rfl rfl
instance : ZeroV Tryz.prog 254 SlV ⟨none, 0, 0⟩ := zeroV_of (by kernel_rfl)
instance : InfoT Tryz.prog 254 1 24 [.slice none 0 0] := info_of (v := (.slice none 0 0)) (by kernel_rfl) rfl rfl
instance : InfoT Tryz.prog 255 1 8 [.nilFunc] := info_of (v := (.nilFunc)) (by kernel_rfl) rfl rfl
instance : InfoT Tryz.prog 256 1 8 [.nilFunc] := info_of (v := (.nilFunc)) (by kernel_rfl) rfl rfl
instance : InfoT Tryz.prog 257 1 8 [.nilFunc] := info_of (v := (.nilFunc)) (by kernel_rfl) rfl rfl
instance : ZeroV Tryz.prog 258 SlV ⟨none, 0, 0⟩ := zeroV_of (by kernel_rfl)
instance : InfoT Tryz.prog 258 1 24 [.slice none 0 0] := info_of (v := (.slice none 0 0)) (by kernel_rfl) rfl rfl
instance : InfoT Tryz.prog 259 1 8 [.nilFunc] := info_of (v := (.nilFunc)) (by kernel_rfl) rfl rfl
instance : InfoT Tryz.prog 260 1 8 [.int .u64 0] := info_of (v := (.int .u64 0)) (by kernel_rfl) rfl rfl
instance : InfoT Tryz.prog 261 1 8 [.nilFunc] := info_of (v := (.nilFunc)) (by kernel_rfl) rfl rfl
instance : InfoT Tryz.prog 262 1 8 [.nilFunc] := info_of (v := (.nilFunc)) (by kernel_rfl) rfl rfl
instance : InfoT Tryz.prog 263 1 8 [.nilFunc] := info_of (v := (.nilFunc)) (by kernel_rfl) rfl rfl
instance : InfoT Tryz.prog 264 1 8 [.pointer none] := info_of (v := (.pointer none)) (by kernel_rfl) rfl rfl
instance : InfoT Tryz.prog 265 1 8 [.nilFunc] := info_of (v := (.nilFunc)) (by kernel_rfl) rfl rfl
instance : InfoT Tryz.prog 266 1 8 [.pointer none] := info_of (v := (.pointer none)) (by kernel_rfl) rfl rfl
instance : ZeroV Tryz.prog 267 SlV ⟨none, 0, 0⟩ := zeroV_of (by kernel_rfl)
instance : InfoT Tryz.prog 267 1 24 [.slice none 0 0] := info_of (v := (.slice none 0 0)) (by kernel_rfl) rfl rfl
instance : InfoT Tryz.prog 268 2 32 [.pointer none, .slice none 0 0] := info_of (v := (.agg #[.pointer none, .slice none 0 0])) (by kernel_rfl) rfl rfl
instance : InfoT Tryz.prog 269 2 32 [.pointer none, .slice none 0 0] := info_of (v := (.agg #[.pointer none, .slice none 0 0])) (by kernel_rfl) rfl rfl
instance : InfoT Tryz.prog 270 1 8 [.nilFunc] := info_of (v := (.nilFunc)) (by kernel_rfl) rfl rfl
instance : InfoT Tryz.prog 272 1 16 [.nilIface] := info_of (v := (.nilIface)) (by kernel_rfl) rfl rfl
instance : InfoT Tryz.prog 274 1 8 [.nilFunc] := info_of (v := (.nilFunc)) (by kernel_rfl) rfl rfl
instance : InfoT Tryz.prog 275 1 8 [.nilFunc] := info_of (v := (.nilFunc)) (by kernel_rfl) rfl rfl
instance : InfoT Tryz.prog 276 1 8 [.nilFunc] := info_of (v := (.nilFunc)) (by kernel_rfl) rfl rfl
instance : InfoT Tryz.prog 277 1 8 [.nilFunc] := info_of (v := (.nilFunc)) (by kernel_rfl) rfl rfl
instance : InfoT Tryz.prog 278 1 8 [.nilFunc] := info_of (v := (.nilFunc)) (by kernel_rfl) rfl rfl
instance : InfoT Tryz.prog 279 1 8 [.pointer none] := info_of (v := (.pointer none)) (by kernel_rfl) rfl rfl
instance : InfoT Tryz.prog 281 1 8 [.nilFunc] := info_of (v := (.nilFunc)) (by kernel_rfl) rfl rfl
instance : InfoT Tryz.prog 282 1 8 [.pointer none] := info_of (v := (.pointer none)) (by kernel_rfl) rfl rfl
instance : InfoT Tryz.prog 283 1 8 [.nilFunc] := info_of (v := (.nilFunc)) (by kernel_rfl) rfl rfl
instance : InfoT Tryz.prog 284 1 8 [.pointer none] := info_of (v := (.pointer none)) (by kernel_rfl) rfl rfl
instance : InfoT Tryz.prog 285 1 8 [.nilFunc] := info_of (v := (.nilFunc)) (by kernel_rfl) rfl rfl
instance : InfoT Tryz.prog 286 1 8 [.nilFunc] := info_of (v := (.nilFunc)) (by kernel_rfl) rfl rfl
instance : InfoT Tryz.prog 287 4 40 [.pointer none, .pointer none, .pointer none, .string ByteArray.empty] := info_of (v := (.agg #[.pointer none, .pointer none, .pointer none, .string ByteArray.empty])) (by kernel_rfl) rfl rfl
instance : InfoT Tryz.prog 288 4 40 [.pointer none, .pointer none, .pointer none, .string ByteArray.empty] := info_of (v := (.agg #[.pointer none, .pointer none, .pointer none, .string ByteArray.empty])) (by kernel_rfl) rfl rfl
instance : InfoT Tryz.prog 292 1 8 [.nilFunc] := info_of (v := (.nilFunc)) (by kernel_rfl) rfl rfl
instance : InfoT Tryz.prog 293 1 1 [.int .u8 0] := info_of (v := (.int .u8 0)) (by kernel_rfl) rfl rfl
instance : InfoT Tryz.prog 294 1 1 [.int .u8 0] := info_of (v := (.int .u8 0)) (by kernel_rfl) rfl rfl
instance : InfoT Tryz.prog 295 1 8 [.nilFunc] := info_of (v := (.nilFunc)) (by kernel_rfl) rfl rfl
instance : InfoT Tryz.prog 296 1 4 [.int .i32 0] := info_of (v := (.int .i32 0)) (by kernel_rfl) rfl rfl
instance : InfoT Tryz.prog 297 1 4 [.int .i32 0] := info_of (v := (.int .i32 0)) (by kernel_rfl) rfl rfl
instance : InfoT Tryz.prog 298 11 48 [.int .u64 0, .int .u64 0, .int .u32 0, .int .u8 0, .int .u8 0, .int .u8 0, .int .u8 0, .nilFunc, .pointer none, .int .i32 0, .int .i32 0] := info_of (v := (.agg #[.int .u64 0, .int .u64 0, .int .u32 0, .int .u8 0, .int .u8 0, .int .u8 0, .int .u8 0, .nilFunc, .pointer none, .int .i32 0, .int .i32 0])) (by kernel_rfl) rfl rfl
instance : InfoT Tryz.prog 299 11 48 [.int .u64 0, .int .u64 0, .int .u32 0, .int .u8 0, .int .u8 0, .int .u8 0, .int .u8 0, .nilFunc, .pointer none, .int .i32 0, .int .i32 0] := info_of (v := (.agg #[.int .u64 0, .int .u64 0, .int .u32 0, .int .u8 0, .int .u8 0, .int .u8 0, .int .u8 0, .nilFunc, .pointer none, .int .i32 0, .int .i32 0])) (by kernel_rfl) rfl rfl
instance : StT Tryz.prog 7 [(0, 1), (1, 1), (2, 1), (3, 1)] [.int .i64 0, .int .i64 0, .bool false, .int .u8 0] := ⟨fun _ => by kernel_rfl⟩
instance : FldT Tryz.prog 7 0 0 := ⟨fun a w => by simp [go_sem]⟩
instance : FldT Tryz.prog 7 1 1 := ⟨fun a w => by simp [go_sem]⟩
instance : FldT Tryz.prog 7 2 2 := ⟨fun a w => by simp [go_sem]⟩
instance : FldT Tryz.prog 7 3 3 := ⟨fun a w => by simp [go_sem]⟩
instance : StT Tryz.prog 8 [(0, 1), (1, 1), (2, 1), (3, 1)] [.int .i64 0, .int .i64 0, .bool false, .int .u8 0] := ⟨fun _ => by kernel_rfl⟩
instance : FldT Tryz.prog 8 0 0 := ⟨fun a w => by simp [go_sem]⟩
instance : FldT Tryz.prog 8 1 1 := ⟨fun a w => by simp [go_sem]⟩
instance : FldT Tryz.prog 8 2 2 := ⟨fun a w => by simp [go_sem]⟩
instance : FldT Tryz.prog 8 3 3 := ⟨fun a w => by simp [go_sem]⟩
instance : StT Tryz.prog 13 [(0, 1), (1, 1)] [.string ByteArray.empty, .int .u64 0] := ⟨fun _ => by kernel_rfl⟩
instance : FldT Tryz.prog 13 0 0 := ⟨fun a w => by simp [go_sem]⟩
instance : FldT Tryz.prog 13 1 1 := ⟨fun a w => by simp [go_sem]⟩
instance : StT Tryz.prog 14 [(0, 1), (1, 1)] [.string ByteArray.empty, .int .u64 0] := ⟨fun _ => by kernel_rfl⟩
instance : FldT Tryz.prog 14 0 0 := ⟨fun a w => by simp [go_sem]⟩
instance : FldT Tryz.prog 14 1 1 := ⟨fun a w => by simp [go_sem]⟩
instance : StT Tryz.prog 18 [(0, 1)] [.pointer none] := ⟨fun _ => by kernel_rfl⟩
instance : FldT Tryz.prog 18 0 0 := ⟨fun a w => by simp [go_sem]⟩
instance : StT Tryz.prog 19 [(0, 1)] [.pointer none] := ⟨fun _ => by kernel_rfl⟩
instance : FldT Tryz.prog 19 0 0 := ⟨fun a w => by simp [go_sem]⟩
instance : StT Tryz.prog 39 [(0, 1), (1, 1), (2, 1)] [.int .i64 0, .int .i64 0, .int .i64 0] := ⟨fun _ => by kernel_rfl⟩
instance : FldT Tryz.prog 39 0 0 := ⟨fun a w => by simp [go_sem]⟩
instance : FldT Tryz.prog 39 1 1 := ⟨fun a w => by simp [go_sem]⟩
instance : FldT Tryz.prog 39 2 2 := ⟨fun a w => by simp [go_sem]⟩
instance : StT Tryz.prog 40 [(0, 1), (1, 1), (2, 1)] [.int .i64 0, .int .i64 0, .int .i64 0] := ⟨fun _ => by kernel_rfl⟩
instance : FldT Tryz.prog 40 0 0 := ⟨fun a w => by simp [go_sem]⟩
instance : FldT Tryz.prog 40 1 1 := ⟨fun a w => by simp [go_sem]⟩
instance : FldT Tryz.prog 40 2 2 := ⟨fun a w => by simp [go_sem]⟩
instance : StT Tryz.prog 44 [(0, 1)] [.slice none 0 0] := ⟨fun _ => by kernel_rfl⟩
instance : FldT Tryz.prog 44 0 0 := ⟨fun a w => by simp [go_sem]⟩
instance : StT Tryz.prog 45 [(0, 1)] [.slice none 0 0] := ⟨fun _ => by kernel_rfl⟩
instance : FldT Tryz.prog 45 0 0 := ⟨fun a w => by simp [go_sem]⟩
instance : StT Tryz.prog 55 [(0, 1), (1, 1)] [.string ByteArray.empty, .slice none 0 0] := ⟨fun _ => by kernel_rfl⟩
instance : FldT Tryz.prog 55 0 0 := ⟨fun a w => by simp [go_sem]⟩
instance : FldT Tryz.prog 55 1 1 := ⟨fun a w => by simp [go_sem]⟩
instance : StT Tryz.prog 56 [(0, 1), (1, 1)] [.string ByteArray.empty, .slice none 0 0] := ⟨fun _ => by kernel_rfl⟩
instance : FldT Tryz.prog 56 0 0 := ⟨fun a w => by simp [go_sem]⟩
instance : FldT Tryz.prog 56 1 1 := ⟨fun a w => by simp [go_sem]⟩
instance : StT Tryz.prog 57 [(0, 1), (1, 1), (2, 1)] [.slice none 0 0, .int .i64 0, .slice none 0 0] := ⟨fun _ => by kernel_rfl⟩
instance : FldT Tryz.prog 57 0 0 := ⟨fun a w => by simp [go_sem]⟩
instance : FldT Tryz.prog 57 1 1 := ⟨fun a w => by simp [go_sem]⟩
instance : FldT Tryz.prog 57 2 2 := ⟨fun a w => by simp [go_sem]⟩
instance : StT Tryz.prog 58 [(0, 1), (1, 1), (2, 1)] [.slice none 0 0, .int .i64 0, .slice none 0 0] := ⟨fun _ => by kernel_rfl⟩
instance : FldT Tryz.prog 58 0 0 := ⟨fun a w => by simp [go_sem]⟩
instance : FldT Tryz.prog 58 1 1 := ⟨fun a w => by simp [go_sem]⟩
instance : FldT Tryz.prog 58 2 2 := ⟨fun a w => by simp [go_sem]⟩
instance : StT Tryz.prog 60 [(0, 1), (1, 1)] [.int .i32 0, .slice none 0 0] := ⟨fun _ => by kernel_rfl⟩
instance : FldT Tryz.prog 60 0 0 := ⟨fun a w => by simp [go_sem]⟩
instance : FldT Tryz.prog 60 1 1 := ⟨fun a w => by simp [go_sem]⟩
instance : StT Tryz.prog 61 [(0, 1), (1, 1)] [.int .i32 0, .slice none 0 0] := ⟨fun _ => by kernel_rfl⟩
instance : FldT Tryz.prog 61 0 0 := ⟨fun a w => by simp [go_sem]⟩
instance : FldT Tryz.prog 61 1 1 := ⟨fun a w => by simp [go_sem]⟩
instance : StT Tryz.prog 63 [(0, 1), (1, 1)] [.slice none 0 0, .slice none 0 0] := ⟨fun _ => by kernel_rfl⟩
instance : FldT Tryz.prog 63 0 0 := ⟨fun a w => by simp [go_sem]⟩
instance : FldT Tryz.prog 63 1 1 := ⟨fun a w => by simp [go_sem]⟩
instance : StT Tryz.prog 64 [(0, 1), (1, 1)] [.slice none 0 0, .slice none 0 0] := ⟨fun _ => by kernel_rfl⟩
instance : FldT Tryz.prog 64 0 0 := ⟨fun a w => by simp [go_sem]⟩
instance : FldT Tryz.prog 64 1 1 := ⟨fun a w => by simp [go_sem]⟩
instance : StT Tryz.prog 67 [(0, 1), (1, 1), (2, 1)] [.int .i32 0, .slice none 0 0, .int .i64 0] := ⟨fun _ => by kernel_rfl⟩
instance : FldT Tryz.prog 67 0 0 := ⟨fun a w => by simp [go_sem]⟩
instance : FldT Tryz.prog 67 1 1 := ⟨fun a w => by simp [go_sem]⟩
instance : FldT Tryz.prog 67 2 2 := ⟨fun a w => by simp [go_sem]⟩
instance : StT Tryz.prog 68 [(0, 1), (1, 1), (2, 1)] [.int .i32 0, .slice none 0 0, .int .i64 0] := ⟨fun _ => by kernel_rfl⟩
instance : FldT Tryz.prog 68 0 0 := ⟨fun a w => by simp [go_sem]⟩
instance : FldT Tryz.prog 68 1 1 := ⟨fun a w => by simp [go_sem]⟩
instance : FldT Tryz.prog 68 2 2 := ⟨fun a w => by simp [go_sem]⟩
instance : StT Tryz.prog 80 [(0, 1), (1, 1), (2, 1), (3, 1)] [.slice none 0 0, .slice none 0 0, .slice none 0 0, .slice none 0 0] := ⟨fun _ => by kernel_rfl⟩
instance : FldT Tryz.prog 80 0 0 := ⟨fun a w => by simp [go_sem]⟩
instance : FldT Tryz.prog 80 1 1 := ⟨fun a w => by simp [go_sem]⟩
instance : FldT Tryz.prog 80 2 2 := ⟨fun a w => by simp [go_sem]⟩
instance : FldT Tryz.prog 80 3 3 := ⟨fun a w => by simp [go_sem]⟩
instance : StT Tryz.prog 81 [(0, 1), (1, 1), (2, 1), (3, 1)] [.slice none 0 0, .slice none 0 0, .slice none 0 0, .slice none 0 0] := ⟨fun _ => by kernel_rfl⟩
instance : FldT Tryz.prog 81 0 0 := ⟨fun a w => by simp [go_sem]⟩
instance : FldT Tryz.prog 81 1 1 := ⟨fun a w => by simp [go_sem]⟩
instance : FldT Tryz.prog 81 2 2 := ⟨fun a w => by simp [go_sem]⟩
instance : FldT Tryz.prog 81 3 3 := ⟨fun a w => by simp [go_sem]⟩
instance : StT Tryz.prog 86 [(0, 1), (1, 1)] [.string ByteArray.empty, .slice none 0 0] := ⟨fun _ => by kernel_rfl⟩
instance : FldT Tryz.prog 86 0 0 := ⟨fun a w => by simp [go_sem]⟩
instance : FldT Tryz.prog 86 1 1 := ⟨fun a w => by simp [go_sem]⟩
instance : StT Tryz.prog 87 [(0, 1), (1, 1)] [.string ByteArray.empty, .slice none 0 0] := ⟨fun _ => by kernel_rfl⟩
instance : FldT Tryz.prog 87 0 0 := ⟨fun a w => by simp [go_sem]⟩
instance : FldT Tryz.prog 87 1 1 := ⟨fun a w => by simp [go_sem]⟩
instance : StT Tryz.prog 97 [(0, 1), (1, 1), (2, 1), (3, 1)] [.int .i64 0, .int .i64 0, .int .i64 0, .int .i64 0] := ⟨fun _ => by kernel_rfl⟩
instance : FldT Tryz.prog 97 0 0 := ⟨fun a w => by simp [go_sem]⟩
instance : FldT Tryz.prog 97 1 1 := ⟨fun a w => by simp [go_sem]⟩
instance : FldT Tryz.prog 97 2 2 := ⟨fun a w => by simp [go_sem]⟩
instance : FldT Tryz.prog 97 3 3 := ⟨fun a w => by simp [go_sem]⟩
instance : StT Tryz.prog 98 [(0, 1), (1, 1), (2, 1), (3, 1)] [.int .i64 0, .int .i64 0, .int .i64 0, .int .i64 0] := ⟨fun _ => by kernel_rfl⟩
instance : FldT Tryz.prog 98 0 0 := ⟨fun a w => by simp [go_sem]⟩
instance : FldT Tryz.prog 98 1 1 := ⟨fun a w => by simp [go_sem]⟩
instance : FldT Tryz.prog 98 2 2 := ⟨fun a w => by simp [go_sem]⟩
instance : FldT Tryz.prog 98 3 3 := ⟨fun a w => by simp [go_sem]⟩
instance : StT Tryz.prog 108 [(0, 1), (1, 1)] [.int .i64 0, .int .i32 0] := ⟨fun _ => by kernel_rfl⟩
instance : FldT Tryz.prog 108 0 0 := ⟨fun a w => by simp [go_sem]⟩
instance : FldT Tryz.prog 108 1 1 := ⟨fun a w => by simp [go_sem]⟩
instance : StT Tryz.prog 109 [(0, 1), (1, 1)] [.int .i64 0, .int .i32 0] := ⟨fun _ => by kernel_rfl⟩
instance : FldT Tryz.prog 109 0 0 := ⟨fun a w => by simp [go_sem]⟩
instance : FldT Tryz.prog 109 1 1 := ⟨fun a w => by simp [go_sem]⟩
instance : StT Tryz.prog 130 [(0, 1), (1, 1)] [.slice none 0 0, .slice none 0 0] := ⟨fun _ => by kernel_rfl⟩
instance : FldT Tryz.prog 130 0 0 := ⟨fun a w => by simp [go_sem]⟩
instance : FldT Tryz.prog 130 1 1 := ⟨fun a w => by simp [go_sem]⟩
instance : StT Tryz.prog 131 [(0, 1), (1, 1)] [.slice none 0 0, .slice none 0 0] := ⟨fun _ => by kernel_rfl⟩
instance : FldT Tryz.prog 131 0 0 := ⟨fun a w => by simp [go_sem]⟩
instance : FldT Tryz.prog 131 1 1 := ⟨fun a w => by simp [go_sem]⟩
instance : StT Tryz.prog 135 [(0, 1), (1, 1), (2, 1), (3, 1)] [.string ByteArray.empty, .int .i64 0, .int .i64 0, .int .i64 0] := ⟨fun _ => by kernel_rfl⟩
instance : FldT Tryz.prog 135 0 0 := ⟨fun a w => by simp [go_sem]⟩
instance : FldT Tryz.prog 135 1 1 := ⟨fun a w => by simp [go_sem]⟩
instance : FldT Tryz.prog 135 2 2 := ⟨fun a w => by simp [go_sem]⟩
instance : FldT Tryz.prog 135 3 3 := ⟨fun a w => by simp [go_sem]⟩
instance : StT Tryz.prog 136 [(0, 1), (1, 1), (2, 1), (3, 1)] [.string ByteArray.empty, .int .i64 0, .int .i64 0, .int .i64 0] := ⟨fun _ => by kernel_rfl⟩
instance : FldT Tryz.prog 136 0 0 := ⟨fun a w => by simp [go_sem]⟩
instance : FldT Tryz.prog 136 1 1 := ⟨fun a w => by simp [go_sem]⟩
instance : FldT Tryz.prog 136 2 2 := ⟨fun a w => by simp [go_sem]⟩
instance : FldT Tryz.prog 136 3 3 := ⟨fun a w => by simp [go_sem]⟩
instance : StT Tryz.prog 152 [(0, 2), (2, 1)] [.string ByteArray.empty, .slice none 0 0, .slice none 0 0] := ⟨fun _ => by kernel_rfl⟩
instance : FldT Tryz.prog 152 0 0 := ⟨fun a w => by simp [go_sem]⟩
instance : FldT Tryz.prog 152 1 2 := ⟨fun a w => by simp [go_sem]⟩
instance : StT Tryz.prog 153 [(0, 2), (2, 1)] [.string ByteArray.empty, .slice none 0 0, .slice none 0 0] := ⟨fun _ => by kernel_rfl⟩
instance : FldT Tryz.prog 153 0 0 := ⟨fun a w => by simp [go_sem]⟩
instance : FldT Tryz.prog 153 1 2 := ⟨fun a w => by simp [go_sem]⟩
instance : StT Tryz.prog 171 [(0, 1), (1, 1)] [.int .u8 0, .int .u8 0] := ⟨fun _ => by kernel_rfl⟩
instance : FldT Tryz.prog 171 0 0 := ⟨fun a w => by simp [go_sem]⟩
instance : FldT Tryz.prog 171 1 1 := ⟨fun a w => by simp [go_sem]⟩
instance : StT Tryz.prog 172 [(0, 1), (1, 1)] [.int .u8 0, .int .u8 0] := ⟨fun _ => by kernel_rfl⟩
instance : FldT Tryz.prog 172 0 0 := ⟨fun a w => by simp [go_sem]⟩
instance : FldT Tryz.prog 172 1 1 := ⟨fun a w => by simp [go_sem]⟩
instance : StT Tryz.prog 178 [(0, 1), (1, 1), (2, 1)] [.slice none 0 0, .int .i64 0, .slice none 0 0] := ⟨fun _ => by kernel_rfl⟩
instance : FldT Tryz.prog 178 0 0 := ⟨fun a w => by simp [go_sem]⟩
instance : FldT Tryz.prog 178 1 1 := ⟨fun a w => by simp [go_sem]⟩
instance : FldT Tryz.prog 178 2 2 := ⟨fun a w => by simp [go_sem]⟩
instance : StT Tryz.prog 179 [(0, 1), (1, 1), (2, 1)] [.slice none 0 0, .int .i64 0, .slice none 0 0] := ⟨fun _ => by kernel_rfl⟩
instance : FldT Tryz.prog 179 0 0 := ⟨fun a w => by simp [go_sem]⟩
instance : FldT Tryz.prog 179 1 1 := ⟨fun a w => by simp [go_sem]⟩
instance : FldT Tryz.prog 179 2 2 := ⟨fun a w => by simp [go_sem]⟩
instance : StT Tryz.prog 212 [(0, 4), (4, 1), (5, 1), (6, 1)] [.int .i64 0, .int .i32 0, .int .i64 0, .int .i32 0, .slice none 0 0, .int .i64 0, .int .i64 0] := ⟨fun _ => by kernel_rfl⟩
instance : FldT Tryz.prog 212 0 0 := ⟨fun a w => by simp [go_sem]⟩
instance : FldT Tryz.prog 212 1 4 := ⟨fun a w => by simp [go_sem]⟩
instance : FldT Tryz.prog 212 2 5 := ⟨fun a w => by simp [go_sem]⟩
instance : FldT Tryz.prog 212 3 6 := ⟨fun a w => by simp [go_sem]⟩
instance : StT Tryz.prog 213 [(0, 4), (4, 1), (5, 1), (6, 1)] [.int .i64 0, .int .i32 0, .int .i64 0, .int .i32 0, .slice none 0 0, .int .i64 0, .int .i64 0] := ⟨fun _ => by kernel_rfl⟩
instance : FldT Tryz.prog 213 0 0 := ⟨fun a w => by simp [go_sem]⟩
instance : FldT Tryz.prog 213 1 4 := ⟨fun a w => by simp [go_sem]⟩
instance : FldT Tryz.prog 213 2 5 := ⟨fun a w => by simp [go_sem]⟩
instance : FldT Tryz.prog 213 3 6 := ⟨fun a w => by simp [go_sem]⟩
instance : StT Tryz.prog 268 [(0, 1), (1, 1)] [.pointer none, .slice none 0 0] := ⟨fun _ => by kernel_rfl⟩
instance : FldT Tryz.prog 268 0 0 := ⟨fun a w => by simp [go_sem]⟩
instance : FldT Tryz.prog 268 1 1 := ⟨fun a w => by simp [go_sem]⟩
instance : StT Tryz.prog 269 [(0, 1), (1, 1)] [.pointer none, .slice none 0 0] := ⟨fun _ => by kernel_rfl⟩
instance : FldT Tryz.prog 269 0 0 := ⟨fun a w => by simp [go_sem]⟩
instance : FldT Tryz.prog 269 1 1 := ⟨fun a w => by simp [go_sem]⟩
instance : StT Tryz.prog 287 [(0, 1), (1, 1), (2, 1), (3, 1)] [.pointer none, .pointer none, .pointer none, .string ByteArray.empty] := ⟨fun _ => by kernel_rfl⟩
instance : FldT Tryz.prog 287 0 0 := ⟨fun a w => by simp [go_sem]⟩
instance : FldT Tryz.prog 287 1 1 := ⟨fun a w => by simp [go_sem]⟩
instance : FldT Tryz.prog 287 2 2 := ⟨fun a w => by simp [go_sem]⟩
instance : FldT Tryz.prog 287 3 3 := ⟨fun a w => by simp [go_sem]⟩
instance : StT Tryz.prog 288 [(0, 1), (1, 1), (2, 1), (3, 1)] [.pointer none, .pointer none, .pointer none, .string ByteArray.empty] := ⟨fun _ => by kernel_rfl⟩
instance : FldT Tryz.prog 288 0 0 := ⟨fun a w => by simp [go_sem]⟩
instance : FldT Tryz.prog 288 1 1 := ⟨fun a w => by simp [go_sem]⟩
instance : FldT Tryz.prog 288 2 2 := ⟨fun a w => by simp [go_sem]⟩
instance : FldT Tryz.prog 288 3 3 := ⟨fun a w => by simp [go_sem]⟩
instance : StT Tryz.prog 298 [(0, 1), (1, 1), (2, 1), (3, 1), (4, 1), (5, 1), (6, 1), (7, 1), (8, 1), (9, 1), (10, 1)] [.int .u64 0, .int .u64 0, .int .u32 0, .int .u8 0, .int .u8 0, .int .u8 0, .int .u8 0, .nilFunc, .pointer none, .int .i32 0, .int .i32 0] := ⟨fun _ => by kernel_rfl⟩
instance : FldT Tryz.prog 298 0 0 := ⟨fun a w => by simp [go_sem]⟩
instance : FldT Tryz.prog 298 1 1 := ⟨fun a w => by simp [go_sem]⟩
instance : FldT Tryz.prog 298 2 2 := ⟨fun a w => by simp [go_sem]⟩
instance : FldT Tryz.prog 298 3 3 := ⟨fun a w => by simp [go_sem]⟩
instance : FldT Tryz.prog 298 4 4 := ⟨fun a w => by simp [go_sem]⟩
instance : FldT Tryz.prog 298 5 5 := ⟨fun a w => by simp [go_sem]⟩
instance : FldT Tryz.prog 298 6 6 := ⟨fun a w => by simp [go_sem]⟩
instance : FldT Tryz.prog 298 7 7 := ⟨fun a w => by simp [go_sem]⟩
instance : FldT Tryz.prog 298 8 8 := ⟨fun a w => by simp [go_sem]⟩
instance : FldT Tryz.prog 298 9 9 := ⟨fun a w => by simp [go_sem]⟩
instance : FldT Tryz.prog 298 10 10 := ⟨fun a w => by simp [go_sem]⟩
instance : StT Tryz.prog 299 [(0, 1), (1, 1), (2, 1), (3, 1), (4, 1), (5, 1), (6, 1), (7, 1), (8, 1), (9, 1), (10, 1)] [.int .u64 0, .int .u64 0, .int .u32 0, .int .u8 0, .int .u8 0, .int .u8 0, .int .u8 0, .nilFunc, .pointer none, .int .i32 0, .int .i32 0] := ⟨fun _ => by kernel_rfl⟩
instance : FldT Tryz.prog 299 0 0 := ⟨fun a w => by simp [go_sem]⟩
instance : FldT Tryz.prog 299 1 1 := ⟨fun a w => by simp [go_sem]⟩
instance : FldT Tryz.prog 299 2 2 := ⟨fun a w => by simp [go_sem]⟩
instance : FldT Tryz.prog 299 3 3 := ⟨fun a w => by simp [go_sem]⟩
instance : FldT Tryz.prog 299 4 4 := ⟨fun a w => by simp [go_sem]⟩
instance : FldT Tryz.prog 299 5 5 := ⟨fun a w => by simp [go_sem]⟩
instance : FldT Tryz.prog 299 6 6 := ⟨fun a w => by simp [go_sem]⟩
instance : FldT Tryz.prog 299 7 7 := ⟨fun a w => by simp [go_sem]⟩
instance : FldT Tryz.prog 299 8 8 := ⟨fun a w => by simp [go_sem]⟩
instance : FldT Tryz.prog 299 9 9 := ⟨fun a w => by simp [go_sem]⟩
instance : FldT Tryz.prog 299 10 10 := ⟨fun a w => by simp [go_sem]⟩
theorem mixed_Tryz : Tryz.prog.follows .mixedOrders = true := by kernel_rfl
end Go.Sx

/-
  Parts of slices for the layer of symbolic frames. General lemmas, no program text.
-/
set_option autoImplicit false
set_option linter.unusedSimpArgs false
set_option linter.unusedVariables false
set_option linter.unusedSectionVars false
namespace Go.Sx
open Enc (enc val)
def SlV.sub (s : SlV) (sz lo hi : Nat) : SlV := ⟨if s.cap = lo then s.addr else s.addr.map (·.add (lo * sz)), hi - lo, s.cap - lo⟩
section
variable {α : Type} [Enc α]
theorem rd_lens {s : SlV} {l : List α} {w : World} (h : RdL s.v l w) : s.len = l.length ∧ s.len ≤ s.cap ∧ s.cap ≤ maxLen := by
  obtain ⟨a, n, cap, e, h1, h2, h3, _⟩ := h
  simp only [SlV.v, Value.slice.injEq] at e
  obtain ⟨rfl, rfl, rfl⟩ := e
  exact ⟨h1.symm, h2, h3⟩
theorem rd_sub {s : SlV} {l : List α} {w : World} (h : RdL s.v l w) {a b : Nat} (hab : a ≤ b) (hb : b ≤ l.length) : RdL (s.sub (Enc.sz α) a b).v ((l.take b).drop a) w := by
  obtain ⟨ad, n, cap, e, h1, h2, h3, h4⟩ := h
  simp only [SlV.v, Value.slice.injEq] at e
  obtain ⟨e1, e2, e3⟩ := e
  refine ⟨_, _, _, rfl, by simp [SlV.sub]; omega, by simp only [SlV.sub]; omega, by simp only [SlV.sub]; omega, fun i x j v hx hv => ?_⟩
  rw [List.getElem?_drop, List.getElem?_take] at hx
  have hib : a + i < b := by
    by_cases h : a + i < b
    · exact h
    · simp [h] at hx
  rw [if_pos hib] at hx
  obtain ⟨bb, hbb, hc⟩ := h4 (a + i) x j v hx hv
  have hne : ¬ s.cap = a := by rw [e3]; omega
  refine ⟨bb.add (a * Enc.sz α), ?_, ?_⟩
  · simp [SlV.sub, if_neg hne, e1, hbb]
  · rw [addr_add_assoc, ← hc]
    congr 2
    rw [Nat.add_mul, Nat.add_assoc]
theorem stb_sub {s : SlV} {l : List α} {w : World} {fp : List Nat} (h : Stb w fp (RdL s.v l)) {a b : Nat} (hab : a ≤ b) (hb : b ≤ l.length) : Stb w fp (RdL (s.sub (Enc.sz α) a b).v ((l.take b).drop a)) :=
  ⟨fun w' k => rd_sub (h.stb w' k) hab hb⟩
variable {P : Program} {n : Fr} {E : Env} {C : World → Prop} {cs : List Bool} {o : Oper}
theorem run_slice_of {t e : TypeId} {sz : Nat} [ht : SlT P t e] [hz : SzT P e sz] {s : SlV} {w : World} {a b : Nat} {lo hi : Option Value} (hb : (Instr.sliceBounds true s.len s.cap lo hi none).run P w = .ok (a, b, s.cap) w) :
    (Instr.sliceAt t s.v lo hi none).run P w = .ok (s.sub sz a b).v w := by
  have e1 := run_underlying (P := P) (w := w) ht.und
  simp [Instr.sliceAt, Instr.slice, e1, hb, hz.sz, Result.andThen, SlV.v, SlV.sub]
theorem q_slice2 {t e : TypeId} {sz : Nat} {x y z : Operand} {cx cy cz : List Bool} {s : SlV} {l : List α} {a b : Int} (ho : o.op = .slice t x (some y) (some z) none) (hx : evl E x = some (cx, s.v)) (hy : evl E y = some (cy, .int .i64 a)) (hz : evl E z = some (cz, .int .i64 b))
    [sx : Sub cx cs] [sy : Sub cy cs] [sz' : Sub cz cs] [ht : SlT P t e] [hs : SzT P e sz] (hrd : ∀ w, C w → RdL s.v l w) (h : AllT cs → 0 ≤ a ∧ a ≤ b ∧ b ≤ l.length) : OpR P n E C cs o (s.sub sz a.toNat b.toNat).v :=
  .of_run fun e he hc w hw => by
    obtain ⟨h1, h2, h3⟩ := h hc
    obtain ⟨l1, l2, l3⟩ := rd_lens (hrd w hw)
    unfold execOp; simp only [ho]
    have e1 := he.eval hx sx hc
    have e2 := he.eval hy sy hc
    have e3 := he.eval hz sz' hc
    have := run_slice_of (P := P) (t := t) (s := s) (w := w) (a := a.toNat) (b := b.toNat) (lo := some (.int .i64 a)) (hi := some (.int .i64 b)) (by
      have f1 := run_sliceBound (P := P) (w := w) .i64 b s.cap .sliceAcap (by omega) (by omega)
      have f2 := run_sliceBound (P := P) (w := w) .i64 a b.toNat .sliceB (by omega) (by omega)
      simp [Instr.sliceBounds, f1, f2, Result.andThen])
    simp [e1, e2, e3, this, Result.andThen]
theorem q_sliceH {t e : TypeId} {sz : Nat} {x z : Operand} {cx cz : List Bool} {s : SlV} {l : List α} {b : Int} (ho : o.op = .slice t x none (some z) none) (hx : evl E x = some (cx, s.v)) (hz : evl E z = some (cz, .int .i64 b))
    [sx : Sub cx cs] [sz' : Sub cz cs] [ht : SlT P t e] [hs : SzT P e sz] (hrd : ∀ w, C w → RdL s.v l w) (h : AllT cs → 0 ≤ b ∧ b ≤ l.length) : OpR P n E C cs o (s.sub sz 0 b.toNat).v :=
  .of_run fun e he hc w hw => by
    obtain ⟨h1, h3⟩ := h hc
    obtain ⟨l1, l2, l3⟩ := rd_lens (hrd w hw)
    unfold execOp; simp only [ho]
    have e1 := he.eval hx sx hc
    have e3 := he.eval hz sz' hc
    have := run_slice_of (P := P) (t := t) (s := s) (w := w) (a := 0) (b := b.toNat) (lo := none) (hi := some (.int .i64 b)) (by
      have f1 := run_sliceBound (P := P) (w := w) .i64 b s.cap .sliceAcap (by omega) (by omega)
      simp [Instr.sliceBounds, f1, Result.andThen])
    simp [e1, e3, this, Result.andThen]
theorem q_sliceL {t e : TypeId} {sz : Nat} {x y : Operand} {cx cy : List Bool} {s : SlV} {l : List α} {a : Int} (ho : o.op = .slice t x (some y) none none) (hx : evl E x = some (cx, s.v)) (hy : evl E y = some (cy, .int .i64 a))
    [sx : Sub cx cs] [sy : Sub cy cs] [ht : SlT P t e] [hs : SzT P e sz] (hrd : ∀ w, C w → RdL s.v l w) (h : AllT cs → 0 ≤ a ∧ a ≤ l.length) : OpR P n E C cs o (s.sub sz a.toNat l.length).v :=
  .of_run fun e he hc w hw => by
    obtain ⟨h1, h3⟩ := h hc
    obtain ⟨l1, l2, l3⟩ := rd_lens (hrd w hw)
    unfold execOp; simp only [ho]
    have e1 := he.eval hx sx hc
    have e2 := he.eval hy sy hc
    have := run_slice_of (P := P) (t := t) (s := s) (w := w) (a := a.toNat) (b := l.length) (lo := some (.int .i64 a)) (hi := none) (by
      have f2 := run_sliceBound (P := P) (w := w) .i64 a l.length .sliceB (by omega) (by omega)
      simp [Instr.sliceBounds, l1, f2, Result.andThen])
    simp [e1, e2, this, Result.andThen]
theorem q_nilCheck {x : Operand} {cx : List Bool} {a : Addr} (ho : o.op = .nilCheck x) (hx : evl E x = some (cx, .pointer (some a))) [hs : Sub cx cs] : OpR P n E C cs o (.pointer (some a)) :=
  .of_run fun e he hc w _ => by unfold execOp; simp only [ho]; rw [he.eval hx hs hc]; rfl
/-- A block of cells that stays. -/
def BlkAt (b : Nat) (cells : List Value) (t : TypeId) (w : World) : Prop := ∃ bs, (blk b cells t).holds w bs
theorem stb_blk {w0 w : World} {fp : List Nat} {H : List Asn} {b : Nat} {cells : List Value} {t : TypeId} (hw : Cl w0 fp H w) (h : blk b cells t ∈ H) : Stb w [] (BlkAt b cells t) := by
  obtain ⟨b2, hb⟩ := hw.split0.2.1 _ h
  exact ⟨fun w' k => ⟨b2, hb.stb w' k⟩⟩
theorem q_loadS {t t' : TypeId} {x : Operand} {cx : List Bool} {b k : Nat} {cells : List Value} {v : Value} (ho : o.op = .load t x) (hx : evl E x = some (cx, .pointer (some ⟨b, k, none⟩))) [hs : Sub cx cs] [ht : CellT P t]
    (hH : ∀ w, C w → BlkAt b cells t' w) (hv : cells[k]? = some v) : OpR P n E C cs o v :=
  .of_run fun a ha hc w hw => by
    obtain ⟨bs, hb⟩ := hH w hw
    unfold execOp; simp only [ho]; rw [ha.eval hx hs hc]
    simp [Instr.loadAt, Instr.sureAddr, loadVar, ht.agg w, run_load, blk.cell hb, hv, Result.andThen]
/-- A byte of a string. -/
def byteAt (b : ByteArray) (i : Nat) : Nat := ((b[i]?).getD 0).toNat
theorem q_indexS {t : TypeId} {x y : Operand} {cx cy : List Bool} {b : ByteArray} {k : IntKind} {i : Int} (ho : o.op = .index t x y) (hx : evl E x = some (cx, .string b)) (hy : evl E y = some (cy, .int k i)) [sx : Sub cx cs] [sy : Sub cy cs]
    (ht : P.underlying t = some .string) (h : AllT cs → 0 ≤ i ∧ i < b.size) : OpR P n E C cs o (.int .u8 (byteAt b i.toNat)) :=
  .of_run fun a ha hc w hw => by
    unfold execOp; simp only [ho]; rw [ha.eval hx sx hc, ha.eval hy sy hc]
    obtain ⟨h1, h2⟩ := h hc
    have h3 : i.toNat < b.size := by omega
    have h4 : b[i.toNat]? = some b[i.toNat] := getElem?_pos b i.toNat h3
    simp [Instr.index, asIntOf, run_underlying ht, h1, h4, Result.andThen, byteAt]
end
end Go.Sx

/-
  More rules for the layer of symbolic frames: calls with effects behind guards that hold. General lemmas, no program text.
-/
set_option autoImplicit false
namespace Go.Sx
open Enc (enc val)
instance (n : Fr) (Q : Exit → Act → World → Prop) [h : RegOk n Q] : RegOk n (Exit.noGoto Q) := ⟨h.ok⟩
instance (Q : Exit → Act → World → Prop) [h : PanicOk Q] : PanicOk (Exit.noGoto Q) := ⟨h.ok⟩
section
variable {P : Program} {n : Fr} {E : Env} {C : World → Prop} {Q : Exit → Act → World → Prop}
end
section
variable {P : Program} {ops : Array Oper} {n : Fr} {E : Env} {C : World → Prop} {cs : List Bool} {o : Oper} {Q : Exit → Act → World → Prop} {w0 : World} {fp : List Nat} {H : List Asn}
/-- An effect behind guards. -/
def OpEc (P : Program) (n : Fr) (E : Env) (C : World → Prop) (cs : List Bool) (o : Oper) (R : Value → World → Prop) : Prop := AllT cs → OpE P n E C o R
theorem sw_xc {α : Type} {vf : α → Value} {C' : α → World → Prop} {rest : List Oper} {d : Nat} (hg : gof ops E o.guard = some cs) (hcs : AllT cs) (hd : o.dst = some d) (hn : Nat.ble (d + 1) n.sz = true)
    (hop : OpEc P n E C cs o (fun v w' => ∃ x, v = vf x ∧ C' x w')) (h : ∀ x, SW P ops Q rest n ((d, [], vf x) :: E) (C' x)) : SW P ops Q (o :: rest) n E C :=
  sw_effg hg hcs hd hn (hop hcs) fun _ => sw_ex fun x => sw_imp fun hv => by subst hv; exact h x
theorem e_callc {α : Type} {vf : α → Value} {p : α → Prop} {B : α → List Asn} {f : FuncId} {l : List Operand} {ts : Array TypeId} {vs : List Value} (hf : CanCall P f) (ho : o.op = .call { callee := .value (.func f), args := l.toArray, argTypes := ts }) (hv : Evs E cs l vs)
    (h : ∀ w, Cl w0 fp H w → Calls P f vs.toArray w fun e w' => ∃ x, e = .returned (vf x) ∧ p x ∧ Cl w [] (B x) w') : OpEc P n E (Cl w0 fp H) cs o (fun v w' => ∃ x, v = vf x ∧ p x ∧ Cl w0 fp (B x ++ H) w') :=
  fun hcs => .of_call (f := f) (args := vs.toArray) (fun a w ha hw => by
    unfold execOp; simp only [ho]
    simp only [resolve, Deferred.ofValue, Act.eval, invoke, List.map_toArray, hv.eval ha hcs, Sem.run_bind, Sem.run_pure, Result.andThen_ok]
    simp [hf.run]) fun w hw => (h w hw).mono fun e w' ⟨x, he, hp, hc⟩ => ⟨_, he, x, rfl, hp, hw.split0.2.2 _ _ hc⟩
theorem q_eqlNil {t e t' : TypeId} {x : Operand} {cx : List Bool} {s : SlV} (ho : o.op = .binOp .eql t x (.const (.slice none 0 0)) t') (hx : evl E x = some (cx, s.v)) [sx : Sub cx cs] [ht : SlT P t e] : OpR P n E C cs o (.bool s.addr.isNone) :=
  fun a ha hc => bin_run (C := C) (y := .const (.slice none 0 0)) ho hx rfl sx inferInstance (eqGuard_at_slice ..) (fun w => run_eql_slice_nil w t e s.addr s.len s.cap ht.und) a ha hc
theorem rd_nil {α : Type} [Enc α] {s : SlV} {xs : List α} {w : World} (h : RdL s.v xs w) (hn : s.addr = none) : xs = [] := by
  obtain ⟨a, m, cap, e, h1, _, _, h4⟩ := h
  simp only [SlV.v, Value.slice.injEq] at e
  cases xs with
  | nil => rfl
  | cons x xs =>
    have hj : 0 < (enc x).length := by rw [Enc.len]; exact Enc.pos
    obtain ⟨b, hb, _⟩ := h4 0 x 0 _ rfl (List.getElem?_eq_getElem hj)
    rw [← e.1, hn] at hb; cases hb
/-- What a frame lends. -/
theorem lend_blk {F : List Asn} {w : World} {bs : List Nat} (h : ∀ G ∈ F, ∃ b2, Stb w bs fun w' => G.holds w' b2) {b : Nat} {cells : List Value} {t : TypeId} (hm : blk b cells t ∈ F) : Stb w bs (BlkAt b cells t) := by
  obtain ⟨b2, hb⟩ := h _ hm
  exact ⟨fun w' k => ⟨b2, hb.stb w' k⟩⟩
end
end Go.Sx

/- Strings and structs in operations: length, equality. General lemmas, no program text. -/
set_option autoImplicit false
namespace Go.Sx
section
variable {P : Program} {n : Fr} {E : Env} {C : World → Prop} {cs : List Bool} {o : Oper}
theorem str_inj {a b : ByteArray} (h : a.toList = b.toList) : a = b := by
  rw [ByteArray.toList_eq, ByteArray.toList_eq] at h
  cases a; cases b; simp at h; simp [h]
theorem q_lenS {l : List Operand} {t : TypeId} {b : ByteArray} (ho : o.op = .call { callee := .builtin .len, args := l.toArray, argTypes := #[t] }) (hv : Evs E cs l [.string b]) (ht : P.underlying t = some .string) : OpR P n E C cs o (.int .i64 b.size) :=
  builtin_run ho hv fun w c hw _ => by
    have := run_underlying ht w
    simp [builtin, Builtin.len_, this, goInt]
theorem q_eqlStr {t t' : TypeId} {x y : Operand} {cx cy : List Bool} {a b : ByteArray} (ho : o.op = .binOp .eql t x y t') (hx : evl E x = some (cx, .string a)) (hy : evl E y = some (cy, .string b)) [sx : Sub cx cs] [sy : Sub cy cs]
    (ht : P.underlying t = some .string) : OpR P n E C cs o (.bool (decide (a = b))) := bin_run ho hx hy sx sy (eqGuard_at_string ..) (fun w => by
      have := run_underlying ht w
      by_cases h : a = b
      · simp [go_sem, this, h]
      · have h2 : ¬ a.toList = b.toList := fun e => h (str_inj e)
        simp [go_sem, this, h, h2])
theorem q_neqStr {t t' : TypeId} {x y : Operand} {cx cy : List Bool} {a b : ByteArray} (ho : o.op = .binOp .neq t x y t') (hx : evl E x = some (cx, .string a)) (hy : evl E y = some (cy, .string b)) [sx : Sub cx cs] [sy : Sub cy cs]
    (ht : P.underlying t = some .string) : OpR P n E C cs o (.bool (!decide (a = b))) := bin_run ho hx hy sx sy (eqGuard_at_string ..) (fun w => by
      have := run_underlying ht w
      by_cases h : a = b
      · simp [go_sem, this, h]
      · have h2 : ¬ a.toList = b.toList := fun e => h (str_inj e)
        simp [go_sem, this, h, h2])
end
section
open Enc (enc val)
variable {P : Program} {ops : Array Oper} {n : Fr} {E : Env} {C : World → Prop} {cs : List Bool} {o : Oper} {w0 : World} {fp : List Nat} {H : List Asn}
end
end Go.Sx

/- Ranges over strings; strings compared by <, <=, >, >=. General lemmas, no program text. -/
set_option autoImplicit false
namespace Go.Sx
section
variable {P : Program} {n : Fr} {E : Env} {C : World → Prop} {cs : List Bool} {o : Oper}
def sLt (a b : ByteArray) : Bool := Op.bytesLess a.toList b.toList
theorem q_lssStr {t t' : TypeId} {x y : Operand} {cx cy : List Bool} {a b : ByteArray} (ho : o.op = .binOp .lss t x y t') (hx : evl E x = some (cx, .string a)) (hy : evl E y = some (cy, .string b)) [sx : Sub cx cs] [sy : Sub cy cs]
    (ht : P.underlying t = some .string) : OpR P n E C cs o (.bool (sLt a b)) := bin_run ho hx hy sx sy (eqGuard_at_string ..) (fun w => by
      have := run_underlying ht w
      simp [go_sem, this, sLt])
theorem q_gtrStr {t t' : TypeId} {x y : Operand} {cx cy : List Bool} {a b : ByteArray} (ho : o.op = .binOp .gtr t x y t') (hx : evl E x = some (cx, .string a)) (hy : evl E y = some (cy, .string b)) [sx : Sub cx cs] [sy : Sub cy cs]
    (ht : P.underlying t = some .string) : OpR P n E C cs o (.bool (!(sLt a b || decide (a = b)))) := bin_run ho hx hy sx sy (eqGuard_at_string ..) (fun w => by
      have := run_underlying ht w
      by_cases h : a = b
      · simp [go_sem, this, sLt, h]
      · have h2 : ¬ a.toList = b.toList := fun e => h (str_inj e)
        simp [go_sem, this, sLt, h, h2])
theorem q_leqStr {t t' : TypeId} {x y : Operand} {cx cy : List Bool} {a b : ByteArray} (ho : o.op = .binOp .leq t x y t') (hx : evl E x = some (cx, .string a)) (hy : evl E y = some (cy, .string b)) [sx : Sub cx cs] [sy : Sub cy cs]
    (ht : P.underlying t = some .string) : OpR P n E C cs o (.bool (sLt a b || decide (a = b))) := bin_run ho hx hy sx sy (eqGuard_at_string ..) (fun w => by
      have := run_underlying ht w
      by_cases h : a = b
      · simp [go_sem, this, sLt, h]
      · have h2 : ¬ a.toList = b.toList := fun e => h (str_inj e)
        simp [go_sem, this, sLt, h, h2])
end
section
variable {P : Program} {ops : Array Oper} {n : Fr} {E : Env} {cs : List Bool} {o : Oper} {w0 : World} {fp : List Nat} {H : List Asn} {Q : Exit → Act → World → Prop}
theorem e_rangeS {t : TypeId} {x : Operand} {cx : List Bool} {s : ByteArray} (ho : o.op = .range t x) (hx : evl E x = some (cx, .string s)) [sx : Sub cx []] (ht : P.underlying t = some .string) :
    OpE P n E (Cl w0 fp H) o (fun u w' => ∃ r, u = .pointer (some ⟨r, 0, none⟩) ∧ Cl w0 fp (obj r (.stringIter s 0) :: H) w') :=
  .of_run fun a w ha hw => by
    refine ⟨_, w.alloc (.stringIter s 0), ?_, w.heap.size, rfl, hw.split0.2.2 [obj w.heap.size (.stringIter s 0)] _ ⟨chg_alloc w _, [w.heap.size], ⟨[w.heap.size], [], rfl, ⟨rfl, World.alloc_heap_new w _⟩, rfl⟩, by simp, fun b hb => by simp at hb; subst hb; exact ⟨.inr (Nat.le_refl _), by simp⟩⟩⟩
    unfold execOp; simp only [ho]; rw [ha.eval hx sx AllT.nil]
    simp [Instr.range, run_underlying ht, Result.andThen, run_newObj_alloc]
theorem run_getIterS {w : World} {r pos : Nat} {s : ByteArray} (h : w.heap[r]? = some (.stringIter s pos)) : (getObj r).run P w = .ok (.stringIter s pos) w := by
  simp [getObj, Sem.run, h]
theorem run_setIterS {w : World} {r pos : Nat} {s : ByteArray} (h : w.heap[r]? = some (.stringIter s pos)) (ob : Obj) : (setObj r ob).run P w = .ok () (ChangeMaps.setBlock w r ob) := by
  simp [setObj, Sem.run, h, ChangeMaps.setBlock]
theorem setA_same : ∀ {H : List Asn} {i : Nat} {x : Asn}, nthA H i = some x → setA H i x = H
  | [], _, _, h => by simp [nthA] at h
  | _ :: _, 0, _, h => by simp [nthA] at h; simp [setA, h]
  | _ :: l, i + 1, _, h => by simp [nthA] at h; simp [setA, setA_same h]
/-- What a step of a range over a string hands out: the place and the letter there, or nothing behind the end. -/
def nextSV (s : ByteArray) (pos : Nat) : Array Value := if pos < s.size then #[.bool true, .int .i64 pos, .int .i32 (Utf8.decode s pos).1] else #[.bool false]
def nextSP (s : ByteArray) (pos : Nat) : Nat := if pos < s.size then pos + (Utf8.decode s pos).2 else pos
theorem nextSV_0 (s : ByteArray) (pos : Nat) : (nextSV s pos)[0]? = some (.bool (decide (pos < s.size))) := by
  unfold nextSV; by_cases h : pos < s.size <;> simp [h]
theorem nextSV_1 {s : ByteArray} {pos : Nat} (h : pos < s.size) : (nextSV s pos)[1]? = some (.int .i64 pos) := by unfold nextSV; simp [h]
theorem nextSV_2 {s : ByteArray} {pos : Nat} (h : pos < s.size) : (nextSV s pos)[2]? = some (.int .i32 (Utf8.decode s pos).1) := by unfold nextSV; simp [h]
theorem e_nextS {x : Operand} {cx : List Bool} {r i pos : Nat} {s : ByteArray} (ho : o.op = .next x true) (hx : evl E x = some (cx, .pointer (some ⟨r, 0, none⟩))) [sx : Sub cx []] (hi : nthA H i = some (obj r (.stringIter s pos))) :
    OpE P n E (Cl w0 fp H) o (fun u w' => ∃ _x : Unit, u = .tuple (nextSV s pos) ∧ Cl w0 fp (setA H i (obj r (.stringIter s (nextSP s pos)))) w') :=
  .of_run fun a w ha hw => by
    have hr : w.heap[r]? = some (.stringIter s pos) := by
      obtain ⟨bs, h⟩ := hw.get (mem_of_nth hi)
      exact h.2
    by_cases h : pos < s.size
    · refine ⟨.tuple (nextSV s pos), ChangeMaps.setBlock w r (.stringIter s (nextSP s pos)), ?_, (), rfl, ?_⟩
      · unfold execOp; simp only [ho]; rw [ha.eval hx sx AllT.nil]
        simp [Instr.next, run_getIterS (P := P) hr, run_setIterS (P := P) hr, Result.andThen, h, nextSV, nextSP, goInt]
      · obtain ⟨bs, ⟨b1, b2, rfl, ⟨rfl, hb⟩, rfl⟩, _, hlt, _, _, h6⟩ := (hw.focus hi).split
        have hl : r < w.heap.size := hlt r (by simp)
        refine (h6 [obj r (.stringIter s (nextSP s pos))] (ChangeMaps.setBlock w r (.stringIter s (nextSP s pos))) ⟨⟨rfl, rfl, rfl, by simp [ChangeMaps.setBlock], fun k hk hn => ?_⟩, [r], ⟨[r], [], rfl, ⟨rfl, ?_⟩, rfl⟩, by simp, fun k hk => ?_⟩).set hi
        · have : k ≠ r := by simpa using hn
          exact Array.getElem?_setIfInBounds_ne (Ne.symm this)
        · simp [ChangeMaps.setBlock, hl]
        · simp at hk; subst hk; exact ⟨.inl (by simp), by simpa [ChangeMaps.setBlock] using hl⟩
    · refine ⟨.tuple (nextSV s pos), w, ?_, (), rfl, ?_⟩
      · unfold execOp; simp only [ho]; rw [ha.eval hx sx AllT.nil]
        simp [Instr.next, run_getIterS (P := P) hr, Result.andThen, h, nextSV]
      · have e : nextSP s pos = pos := by simp [nextSP, h]
        rw [e, setA_same hi]; exact hw
end
end Go.Sx

/- The letters of a string: where each begins, which it is. A plain text beside the layer. -/
set_option autoImplicit false
namespace Go.Sx
open Enc (enc val)
/-- A letter in memory: an int32. -/
structure Rn where
  v : Int
deriving DecidableEq
instance : Enc Rn := ⟨fun x => [.int .i32 x.v], 1, fun x => .int .i32 x.v, fun _ => rfl, by simp [Value.oneCell'], fun _ => rfl, by decide⟩
instance : Inhabited Rn := ⟨⟨0⟩⟩
theorem decode_pos (s : ByteArray) (i : Nat) : 1 ≤ (Utf8.decode s i).2 := by
  unfold Utf8.decode
  simp only []
  repeat' split
  all_goals simp
/-- The letters from a place on, by at most so many: place and letter. -/
def runesN (s : ByteArray) : Nat → Nat → List (Nat × Nat)
  | 0, _ => []
  | f + 1, i => if i < s.size then (i, (Utf8.decode s i).1) :: runesN s f (i + (Utf8.decode s i).2) else []
theorem runesN_fuel (s : ByteArray) : ∀ (f g i : Nat), s.size - i ≤ f → s.size - i ≤ g → runesN s f i = runesN s g i
  | 0, 0, _, _, _ => rfl
  | 0, g + 1, i, h, _ => by simp [runesN, show ¬ i < s.size by omega]
  | f + 1, 0, i, _, h => by simp [runesN, show ¬ i < s.size by omega]
  | f + 1, g + 1, i, h, h' => by
    unfold runesN
    by_cases hi : i < s.size
    · have := decode_pos s i
      rw [if_pos hi, if_pos hi, runesN_fuel s f g _ (by omega) (by omega)]
    · rw [if_neg hi, if_neg hi]
/-- The letters from a place on. -/
def runesP (s : ByteArray) (i : Nat) : List (Nat × Nat) := runesN s s.size i
theorem runesP_end {s : ByteArray} {i : Nat} (h : ¬ i < s.size) : runesP s i = [] := by
  unfold runesP
  rw [runesN_fuel s s.size 0 i (by omega) (by omega)]; rfl
theorem runesP_step {s : ByteArray} {i : Nat} (h : i < s.size) : runesP s i = (i, (Utf8.decode s i).1) :: runesP s (i + (Utf8.decode s i).2) := by
  have hp := decode_pos s i
  have e : runesP s i = runesN s (s.size + 1) i := runesN_fuel s _ _ i (by omega) (by omega)
  rw [e, runesN, if_pos h]; rfl
def runes (s : ByteArray) : List Rn := (runesP s 0).map fun x => ⟨x.2⟩
theorem runesFrom_eq (s : ByteArray) : ∀ (f i : Nat) (acc : Array Value), (Conv.runesFrom s f i acc).toList = acc.toList ++ (runesN s f i).map (fun x => Value.int .i32 (Int.ofNat x.2))
  | 0, _, _ => by simp [Conv.runesFrom, runesN]
  | f + 1, i, acc => by
    unfold Conv.runesFrom runesN
    by_cases h : i < s.size
    · simp only [h, if_true]
      rw [runesFrom_eq s f]
      simp
    · simp [h]
theorem runes_len_le (s : ByteArray) : (runes s).length ≤ s.size := by
  have : ∀ f i, (runesN s f i).length ≤ f := by
    intro f
    induction f with
    | zero => intro i; simp [runesN]
    | succ f ih => intro i; unfold runesN; split <;> simp [ih]
  unfold runes runesP
  simpa using this s.size 0
section
variable {P : Program} {n : Fr} {E : Env} {o : Oper} {w0 : World} {fp : List Nat} {H : List Asn}
theorem runesFrom_list (s : ByteArray) : (Conv.runesFrom s s.size 0 #[]).toList = (runes s).flatMap enc := by
  rw [runesFrom_eq]
  show [] ++ (runesP s 0).map _ = ((runesP s 0).map _).flatMap enc
  induction runesP s 0 with
  | nil => rfl
  | cons x l ih => simp at ih ⊢; rw [← ih]; rfl
theorem runesFrom_size (s : ByteArray) : (Conv.runesFrom s s.size 0 #[]).size = (runes s).length := by
  rw [← Array.length_toList, runesFrom_eq]
  simp [runes, runesP]
theorem e_runes {src dst e : TypeId} {x : Operand} {cx : List Bool} {s : ByteArray} (ho : o.op = .convert src dst x) (hx : evl E x = some (cx, .string s)) [sx : Sub cx []] (hs : P.underlying src = some .string) [hd : SlT P dst e] (he : P.underlying e = some (.int .i32)) (h46 : s.size ≤ 70368744177664)
    : OpE P n E (Cl w0 fp H) o (fun u w' => ∃ v : SlV, u = v.v ∧ Cl w0 fp (ownL e v.v (runes s) :: H) w') :=
  .of_run fun a w ha hw => by
    have hz := runesFrom_size s
    have hl := runes_len_le s
    have hr := run_runes_of_string (P := P) w src dst e s hs hd.und he (by omega)
    have hge := grownCap_ge w (Conv.runesFrom s s.size 0 #[]).size 0 e
    refine ⟨_, _, ?_, ⟨some ⟨w.heap.size, 0, none⟩, (runes s).length, grownCap w (Conv.runesFrom s s.size 0 #[]).size 0 e⟩, rfl, hw.drew.split0.2.2 [ownL e _ (runes s)] _ (cl_own_new (e := e) (l := runes s) (cap := grownCap w (Conv.runesFrom s s.size 0 #[]).size 0 e) (cur := Conv.runesFrom s s.size 0 #[] ++ Array.replicate (grownCap w (Conv.runesFrom s s.size 0 #[]).size 0 e - (Conv.runesFrom s s.size 0 #[]).size) (.int .i32 0)) w.drew ?_ ?_ ?_ ?_)⟩
    · unfold execOp; simp only [ho]; rw [ha.eval hx sx AllT.nil]
      simp [hr, Result.andThen, hz, SlV.v]
    · omega
    · exact grownCap_le_maxLen _ _ _ _ (by simp only [maxLen]; omega)
    · have hz1 : Enc.sz Rn = 1 := rfl
      simp only [Array.size_append, Array.size_replicate, hz1, Nat.mul_one]; omega
    · have hz1 : Enc.sz Rn = 1 := rfl
      have hl2 : (runes s).length * 1 = ((Conv.runesFrom s s.size 0 #[]).toList).length := by rw [Nat.mul_one]; exact hz.symm
      rw [Array.toList_append, hz1, hl2, List.take_left', runesFrom_list]
      rfl
end
end Go.Sx

set_option autoImplicit false
set_option maxRecDepth 100000
namespace Go.Proofs.YtkmbliojafefdaaGreatDoor
open Go.Sx
open Enc (enc val)
structure Cond where
  at_ : Int
  c : Int
instance : Inhabited Cond := ⟨⟨0, 0⟩⟩
instance : Enc Cond := ⟨fun u => [.int .i64 u.at_, .int .i32 u.c], 2, fun u => .agg #[.int .i64 u.at_, .int .i32 u.c], fun _ => rfl, by simp [Value.oneCell'], fun _ => rfl, by decide⟩
instance : HasTy Tryz.prog 109 Cond := hasTy_agg Tryz.sizeOf109 Tryz.isAgg109 (fun _ => rfl)
structure Pr where
  c : Int
  p : SlV
  cost : Int
  pl : List ByteArray
instance : Inhabited Pr := ⟨⟨0, default, 0, []⟩⟩
instance : Enc Pr := ⟨fun u => [.int .i32 u.c, u.p.v, .int .i64 u.cost], 3, fun u => .agg #[.int .i32 u.c, u.p.v, .int .i64 u.cost], fun _ => rfl, by simp [Value.oneCell', SlV.v], fun _ => rfl, by decide⟩
instance : HasTy Tryz.prog 68 Pr := hasTy_agg Tryz.sizeOf68 Tryz.isAgg68 (fun _ => rfl)
structure Sp where
  word : ByteArray
  p : SlV
  pl : List ByteArray
instance : Inhabited Sp := ⟨⟨default, default, []⟩⟩
instance : Enc Sp := ⟨fun u => [.string u.word, u.p.v], 2, fun u => .agg #[.string u.word, u.p.v], fun _ => rfl, by simp [Value.oneCell', SlV.v], fun _ => rfl, by decide⟩
instance : HasTy Tryz.prog 56 Sp := hasTy_agg Tryz.sizeOf56 Tryz.isAgg56 (fun _ => rfl)
structure Chc where
  t : SlV
  p : SlV
  tl : List Cond
  pl : List ByteArray
instance : Inhabited Chc := ⟨⟨default, default, [], []⟩⟩
instance : Enc Chc := ⟨fun u => [u.t.v, u.p.v], 2, fun u => .agg #[u.t.v, u.p.v], fun _ => rfl, by simp [Value.oneCell', SlV.v], fun _ => rfl, by decide⟩
instance : HasTy Tryz.prog 64 Chc := hasTy_agg Tryz.sizeOf64 Tryz.isAgg64 (fun _ => rfl)
structure Let where
  c : Int
  r : SlV
  rl : List Chc
instance : Inhabited Let := ⟨⟨0, default, []⟩⟩
instance : Enc Let := ⟨fun u => [.int .i32 u.c, u.r.v], 2, fun u => .agg #[.int .i32 u.c, u.r.v], fun _ => rfl, by simp [Value.oneCell', SlV.v], fun _ => rfl, by decide⟩
instance : HasTy Tryz.prog 61 Let := hasTy_agg Tryz.sizeOf61 Tryz.isAgg61 (fun _ => rfl)
structure Bk where
  b : SlV
  bl : List Let
instance : Inhabited Bk := ⟨⟨default, []⟩⟩
instance : Enc Bk := ⟨fun u => [u.b.v], 1, fun u => .agg #[u.b.v], fun _ => rfl, by simp [Value.oneCell', SlV.v], fun _ => rfl, by decide⟩
instance : HasTy Tryz.prog 45 Bk := hasTy_agg Tryz.sizeOf45 Tryz.isAgg45 (fun _ => rfl)
structure Jnt where
  l : SlV
  r : SlV
  tol : SlV
  tor : SlV
  ll : List ByteArray
  rl : List ByteArray
  toll : List ByteArray
  torl : List ByteArray
instance : Inhabited Jnt := ⟨⟨default, default, default, default, [], [], [], []⟩⟩
instance : Enc Jnt := ⟨fun u => [u.l.v, u.r.v, u.tol.v, u.tor.v], 4, fun u => .agg #[u.l.v, u.r.v, u.tol.v, u.tor.v], fun _ => rfl, by simp [Value.oneCell', SlV.v], fun _ => rfl, by decide⟩
instance : HasTy Tryz.prog 81 Jnt := hasTy_agg Tryz.sizeOf81 Tryz.isAgg81 (fun _ => rfl)
structure Fgn where
  phone : ByteArray
  s : SlV
  sl : List (List ByteArray)
instance : Inhabited Fgn := ⟨⟨default, default, []⟩⟩
instance : Enc Fgn := ⟨fun u => [.string u.phone, u.s.v], 2, fun u => .agg #[.string u.phone, u.s.v], fun _ => rfl, by simp [Value.oneCell', SlV.v], fun _ => rfl, by decide⟩
instance : HasTy Tryz.prog 87 Fgn := hasTy_agg Tryz.sizeOf87 Tryz.isAgg87 (fun _ => rfl)
structure Snd where
  phone : ByteArray
  fr : Int
  why : Int
  ix : Int
instance : Inhabited Snd := ⟨⟨default, 0, 0, 0⟩⟩
instance : Enc Snd := ⟨fun u => [.string u.phone, .int .i64 u.fr, .int .i64 u.why, .int .i64 u.ix], 4, fun u => .agg #[.string u.phone, .int .i64 u.fr, .int .i64 u.why, .int .i64 u.ix], fun _ => rfl, by simp [Value.oneCell'], fun _ => rfl, by decide⟩
instance : HasTy Tryz.prog 136 Snd := hasTy_agg Tryz.sizeOf136 Tryz.isAgg136 (fun _ => rfl)
structure Lrn where
  reach : Int
  least : Int
  most : Int
instance : Inhabited Lrn := ⟨⟨0, 0, 0⟩⟩
instance : Enc Lrn := ⟨fun u => [.int .i64 u.reach, .int .i64 u.least, .int .i64 u.most], 3, fun u => .agg #[.int .i64 u.reach, .int .i64 u.least, .int .i64 u.most], fun _ => rfl, by simp [Value.oneCell'], fun _ => rfl, by decide⟩
instance : HasTy Tryz.prog 40 Lrn := hasTy_agg Tryz.sizeOf40 Tryz.isAgg40 (fun _ => rfl)
structure Scr where
  words : Int
  right : Int
  letters : Int
  good : Int
instance : Inhabited Scr := ⟨⟨0, 0, 0, 0⟩⟩
instance : Enc Scr := ⟨fun u => [.int .i64 u.words, .int .i64 u.right, .int .i64 u.letters, .int .i64 u.good], 4, fun u => .agg #[.int .i64 u.words, .int .i64 u.right, .int .i64 u.letters, .int .i64 u.good], fun _ => rfl, by simp [Value.oneCell'], fun _ => rfl, by decide⟩
instance : HasTy Tryz.prog 98 Scr := hasTy_agg Tryz.sizeOf98 Tryz.isAgg98 (fun _ => rfl)
structure XR where
  w : SlV
  at_ : Int
  p : SlV
  wl : List Rn
  pl : List ByteArray
instance : Inhabited XR := ⟨⟨default, 0, default, [], []⟩⟩
instance : Enc XR := ⟨fun u => [u.w.v, .int .i64 u.at_, u.p.v], 3, fun u => .agg #[u.w.v, .int .i64 u.at_, u.p.v], fun _ => rfl, by simp [Value.oneCell', SlV.v], fun _ => rfl, by decide⟩
instance : HasTy Tryz.prog 58 XR := hasTy_agg Tryz.sizeOf58 Tryz.isAgg58 (fun _ => rfl)
structure XL where
  w : SlV
  at_ : Int
  p : SlV
  wl : List Rn
  pl : List ByteArray
instance : Inhabited XL := ⟨⟨default, 0, default, [], []⟩⟩
instance : Enc XL := ⟨fun u => [u.w.v, .int .i64 u.at_, u.p.v], 3, fun u => .agg #[u.w.v, .int .i64 u.at_, u.p.v], fun _ => rfl, by simp [Value.oneCell', SlV.v], fun _ => rfl, by decide⟩
instance : HasTy Tryz.prog 179 XL := hasTy_agg Tryz.sizeOf179 Tryz.isAgg179 (fun _ => rfl)
theorem stb_true (w : World) (fp : List Nat) : Stb w fp (fun _ => True) := ⟨fun _ _ => trivial⟩
def sgn (x : Int) : Int := if x < 0 then -1 else if 0 < x then 1 else 0
theorem sign_spec (x : Int) (w : World) : Calls Tryz.prog 80 #[.int .i64 x] w fun e w' => e = .returned (.int .i64 (sgn x)) ∧ Cl w [] [] w' := by
  refine calls_cw (vs := [_]) Tryz.func80 rfl Tryz.ntmps80 rfl (Cl.start0 w) (cw_seq (cw_region (sr rfl rfl rfl ((q_assign rfl rfl)) (sw_nil (post_then (cw_seq (cw_seq (cw_region (sr rfl rfl rfl ((q_move rfl rfl)) (sr rfl rfl rfl ((q_lss rfl rfl rfl)) (sw_nil (post_then ?_))))))))))))
  refine cw_cond rfl (fun h => ?_) (fun h => ?_)
  · skip
    have e : sgn x = -1 := by simp only [decide_eq_true_eq] at h; simp [sgn, h]
    rw [e]
    refine cw_seq (cw_region (sr rfl rfl rfl ((q_assign rfl rfl)) (sw_nil (post_then (cw_ret (post_then_r (post_ret1 rfl (resOk_tmp rfl) ?_)))))))
    refine fun w' hw => ⟨rfl, hw⟩
  · skip
    refine cw_skip (post_then (cw_seq (cw_seq (cw_region (sr rfl rfl rfl ((q_move rfl rfl)) (sr rfl rfl rfl ((q_gtr rfl rfl rfl)) (sw_nil (post_then ?_))))))))
    refine cw_cond rfl (fun h2 => ?_) (fun h2 => ?_)
    · skip
      have e : sgn x = 1 := by simp only [decide_eq_true_eq, decide_eq_false_iff_not] at h h2; simp [sgn, h, h2]
      rw [e]
      refine cw_seq (cw_region (sr rfl rfl rfl ((q_assign rfl rfl)) (sw_nil (post_then (cw_ret (post_then_r (post_ret1 rfl (resOk_tmp rfl) ?_)))))))
      refine fun w' hw => ⟨rfl, hw⟩
    · skip
      have e : sgn x = 0 := by simp only [decide_eq_false_iff_not] at h h2; simp [sgn, h, h2]
      rw [e]
      refine cw_skip (post_then (cw_seq (cw_region (sr rfl rfl rfl ((q_assign rfl rfl)) (sw_nil (post_then (cw_ret (post_ret1 rfl (resOk_tmp rfl) ?_))))))))
      refine fun w' hw => ⟨rfl, hw⟩
end Go.Proofs.YtkmbliojafefdaaGreatDoor

set_option autoImplicit false
set_option maxRecDepth 100000
namespace Go.Proofs.YtkmbliojafefdaaGreatDoor
open Go.Sx
open Enc (enc val)
def ordL : List ByteArray → List ByteArray → Int
  | [], [] => 0
  | [], _ :: _ => -1
  | _ :: _, [] => 1
  | a :: x, b :: y => if a = b then ordL x y else if sLt a b then -1 else 1
theorem bl_irr : ∀ l : List UInt8, Op.bytesLess l l = false
  | [] => rfl
  | a :: l => by simp [Op.bytesLess, bl_irr l]
theorem sLt_irr (a : ByteArray) : sLt a a = false := bl_irr _
theorem ordL_self : ∀ a : List ByteArray, ordL a a = 0
  | [] => rfl
  | a :: l => by simp [ordL, ordL_self l]
theorem ordL_step {a b : List ByteArray} {k : Nat} (ha : k < a.length) (hb : k < b.length) : ordL (a.drop k) (b.drop k) = if nth a k = nth b k then ordL (a.drop (k + 1)) (b.drop (k + 1)) else if sLt (nth a k) (nth b k) then -1 else 1 := by
  rw [List.drop_eq_getElem_cons ha, List.drop_eq_getElem_cons hb, nth_get ha, nth_get hb]
  rfl
theorem ordL_end {a b : List ByteArray} {k : Nat} (hk : k ≤ a.length) (hk2 : k ≤ b.length) (h : ¬ (k < a.length ∧ k < b.length)) : ordL (a.drop k) (b.drop k) = sgn ((a.length : Int) - b.length) := by
  by_cases ha : k < a.length
  · have hb : k = b.length := by omega
    rw [List.drop_eq_getElem_cons ha, List.drop_eq_nil_of_le (by omega : b.length ≤ k)]
    simp only [ordL, sgn]; rw [if_neg (by omega), if_pos (by omega)]
  · rw [List.drop_eq_nil_of_le (by omega : a.length ≤ k)]
    by_cases hb : k < b.length
    · rw [List.drop_eq_getElem_cons hb]
      simp only [ordL, sgn]; rw [if_pos (by omega)]
    · rw [List.drop_eq_nil_of_le (by omega : b.length ≤ k)]
      simp only [ordL, sgn]; rw [if_neg (by omega), if_neg (by omega)]
theorem order_spec (sa sb : Value) (a b : List ByteArray) (w : World) (ha : Stb w [] (RdL sa a)) (hb : Stb w [] (RdL sb b)) : Calls Tryz.prog 38 #[sa, sb] w fun e w' => e = .returned (.int .i64 (ordL a b)) ∧ Cl w [] [] w' := by
  have hLa := rd_len ha.here
  have hLb := rd_len hb.here
  refine calls_cw (vs := [_, _]) Tryz.func38 rfl Tryz.ntmps38 rfl (Cl.start0 w) (cw_seq (cw_region (sr rfl rfl rfl ((q_assign rfl rfl)) (sw_nil (post_then (cw_seq (cw_seq (cw_region (sr rfl rfl rfl ((q_assign rfl rfl)) (sw_nil (post_then (cw_block ?_))))))))))))
  refine cw_loop (S := Nat) (fun k => [(0, [], sa), (1, [], sb), (5, [], .int .i64 k)]) (fun _ => Cl w [] []) (fun k => k ≤ a.length ∧ k ≤ b.length ∧ ordL a b = ordL (a.drop k) (b.drop k)) (fun k => a.length - k) 0 ⟨Nat.zero_le _, Nat.zero_le _, rfl⟩ (by exact .cons rfl (.cons rfl (.cons rfl .nil))) (fun _ h => h) ?_
  rintro k ⟨hk, hk2, hbe⟩
  refine cw_seq (cw_seq (cw_region (sr rfl rfl rfl ((q_move rfl rfl)) (sr rfl rfl rfl ((q_move rfl rfl)) ?_))))
  refine sr rfl rfl rfl ((q_len rfl (.cons rfl inferInstance (.nil)) (by exact fun w hw => Stb.cl (by assumption) hw))) ?_
  refine sr rfl rfl rfl ((q_lss rfl rfl rfl)) (sr rfl rfl rfl ((q_move rfl rfl)) (sr rfl rfl rfl ((q_move rfl rfl)) (sr rfl rfl rfl ((q_move rfl rfl)) ?_)))
  refine sr rfl rfl rfl ((q_len rfl (.cons rfl inferInstance (.nil)) (by exact fun w hw => Stb.cl (by assumption) hw))) ?_
  refine sr rfl rfl rfl ((q_lss rfl rfl rfl)) (sr rfl rfl rfl ((q_and2 rfl rfl rfl)) (sw_nil (post_then ?_)))
  refine cw_cond rfl (fun h => ?_) (fun h => ?_)
  · skip
    have hk' : k < a.length ∧ k < b.length := by simp at h; omega
    have hs := ordL_step hk'.1 hk'.2
    refine cw_skip (post_then (cw_seq (cw_block (cw_seq (cw_seq ?_)))))
    refine cw_region_q mixed_Tryz (by kernel_rfl) ?_
    refine qr rfl rfl rfl ((q_move rfl rfl)) (qr rfl rfl rfl ((q_move rfl rfl)) ?_)
    refine qr rfl rfl rfl ((q_indexN rfl rfl rfl (by exact fun w hw => Stb.cl (by assumption) hw) (by intro hc; omega))) ?_
    refine qr rfl rfl rfl ((q_loadEl rfl rfl rfl (by exact fun w hw => Stb.cl (by assumption) hw) (by intro hc; omega))) ?_
    refine qr rfl rfl rfl ((q_move rfl rfl)) (qr rfl rfl rfl ((q_move rfl rfl)) ?_)
    refine qr rfl rfl rfl ((q_indexN rfl rfl rfl (by exact fun w hw => Stb.cl (by assumption) hw) (by intro hc; omega))) ?_
    refine qr rfl rfl rfl ((q_loadEl rfl rfl rfl (by exact fun w hw => Stb.cl (by assumption) hw) (by intro hc; omega))) ?_
    refine qr rfl rfl rfl ((q_lssStr rfl rfl rfl Tryz.underlying9)) (qw_end (post_then ?_))
    refine cw_cond rfl (fun h2 => ?_) (fun h2 => ?_)
    · skip
      have h3 : ordL a b = -1 := by
        rw [hbe, hs, if_neg (fun e => by rw [e, sLt_irr] at h2; exact absurd h2 (by decide)), if_pos h2]
      refine cw_seq (cw_region (sr rfl rfl rfl ((q_assign rfl rfl)) (sw_nil (post_then (cw_ret (post_then_r (post_blk_r (post_then_r (post_then_r (post_blk_r (post_then_r (post_ret1 rfl (resOk_tmp rfl) ?_))))))))))))
      exact fun w' hw => ⟨by rw [h3], hw⟩
    · skip
      refine cw_skip (post_then (cw_seq ?_))
      refine cw_region_q mixed_Tryz (by kernel_rfl) ?_
      refine qr rfl rfl rfl ((q_move rfl rfl)) (qr rfl rfl rfl ((q_move rfl rfl)) ?_)
      refine qr rfl rfl rfl ((q_indexN rfl rfl rfl (by exact fun w hw => Stb.cl (by assumption) hw) (by intro hc; omega))) ?_
      refine qr rfl rfl rfl ((q_loadEl rfl rfl rfl (by exact fun w hw => Stb.cl (by assumption) hw) (by intro hc; omega))) ?_
      refine qr rfl rfl rfl ((q_move rfl rfl)) (qr rfl rfl rfl ((q_move rfl rfl)) ?_)
      refine qr rfl rfl rfl ((q_indexN rfl rfl rfl (by exact fun w hw => Stb.cl (by assumption) hw) (by intro hc; omega))) ?_
      refine qr rfl rfl rfl ((q_loadEl rfl rfl rfl (by exact fun w hw => Stb.cl (by assumption) hw) (by intro hc; omega))) ?_
      refine qr rfl rfl rfl ((q_gtrStr rfl rfl rfl Tryz.underlying9)) (qw_end (post_then ?_))
      refine cw_cond rfl (fun h4 => ?_) (fun h4 => ?_)
      · skip
        have h3 : ordL a b = 1 := by
          simp at h4
          rw [hbe, hs, if_neg h4.2, if_neg (by simp [h4.1])]
        refine cw_seq (cw_region (sr rfl rfl rfl ((q_assign rfl rfl)) (sw_nil (post_then (cw_ret (post_blk_r (post_then_r (post_then_r (post_blk_r (post_then_r (post_ret1 rfl (resOk_tmp rfl) ?_)))))))))))
        exact fun w' hw => ⟨by rw [h3], hw⟩
      · skip
        have h3 : nth a k = nth b k := by
          simp at h2 h4
          exact h4 h2
        refine cw_skip (post_blk (post_then (cw_region (sr rfl rfl rfl ((q_move rfl rfl)) ?_))))
        refine sr rfl rfl rfl ((q_add rfl rfl rfl (by intro hc; omega))) ?_
        refine sr rfl rfl rfl ((q_assign rfl rfl)) (sw_nil ?_)
        exact post_next (k + 1) (by exact .cons rfl (.cons rfl (.cons rfl .nil))) (fun _ h => h) ⟨by omega, by omega, by rw [hbe, hs, if_pos h3]⟩ (by omega)
  · skip
    have hk' : ¬ (k < a.length ∧ k < b.length) := by simp at h; omega
    have he := ordL_end hk hk2 hk'
    refine cw_exit (post_then_x (post_then_x (post_blk_eq (post_then (cw_seq (cw_region (sr rfl rfl rfl ((q_move rfl rfl)) ?_)))))))
    refine sr rfl rfl rfl ((q_len rfl (.cons rfl inferInstance (.nil)) (by exact fun w hw => Stb.cl (by assumption) hw))) ?_
    refine sr rfl rfl rfl ((q_move rfl rfl)) ?_
    refine sr rfl rfl rfl ((q_len rfl (.cons rfl inferInstance (.nil)) (by exact fun w hw => Stb.cl (by assumption) hw))) ?_
    refine sr rfl rfl rfl ((q_sub rfl rfl rfl (by intro hc; omega))) ?_
    refine sw_step rfl rfl rfl (q_call (CanCall.mk Tryz.call80) rfl (.cons rfl inferInstance (.nil)) (fun _ w hw => callq hw (sign_spec _ w))) (sr rfl rfl rfl ((q_assign rfl rfl)) (sw_nil (post_then (cw_ret (post_ret1 rfl (resOk_tmp rfl) ?_)))))
    exact fun w' hw => ⟨by rw [hbe, he], hw⟩
end Go.Proofs.YtkmbliojafefdaaGreatDoor

set_option autoImplicit false
set_option maxRecDepth 100000
namespace Go.Proofs.YtkmbliojafefdaaGreatDoor
open Go.Sx
open Enc (enc val)
theorem ordL_eq : ∀ (a b : List ByteArray), ordL a b = 0 ↔ a = b
  | [], [] => by simp [ordL]
  | [], _ :: _ => by simp [ordL]
  | _ :: _, [] => by simp [ordL]
  | a :: x, b :: y => by
    unfold ordL
    by_cases h : a = b
    · simp [h, ordL_eq x y]
    · rw [if_neg h]; split <;> simp [h]
/-- Slices that read as lists. -/
def RdR {α : Type} [Enc α] (vs : List SlV) (ll : List (List α)) (w : World) : Prop := vs.length = ll.length ∧ ∀ i, i < ll.length → RdL (nth vs i).v (nth ll i) w
theorem stb_row {α : Type} [Enc α] {vs : List SlV} {ll : List (List α)} {w : World} {fp : List Nat} (h : Stb w fp (RdR vs ll)) {i : Nat} (hi : i < ll.length) : Stb w fp (RdL (nth vs i).v (nth ll i)) := ⟨fun w' k => (h.stb w' k).2 i hi⟩
theorem samePieces_spec (sa sb : Value) (va vb : List SlV) (a b : List (List ByteArray)) (w : World) (ha : Stb w [] (RdL sa va)) (hb : Stb w [] (RdL sb vb)) (ra : Stb w [] (RdR va a)) (rb : Stb w [] (RdR vb b)) : Calls Tryz.prog 25 #[sa, sb] w fun e w' => e = .returned (.bool (decide (a = b))) ∧ Cl w [] [] w' := by
  have hLa := rd_len ha.here
  have hLb := rd_len hb.here
  have la := ra.here.1
  have lb := rb.here.1
  refine calls_cw (vs := [_, _]) Tryz.func25 rfl Tryz.ntmps25 rfl (Cl.start0 w) (cw_seq (cw_region (sr rfl rfl rfl ((q_assign rfl rfl)) (sw_nil (post_then (cw_seq (cw_seq (cw_region (sr rfl rfl rfl ((q_move rfl rfl)) ?_)))))))))
  refine sr rfl rfl rfl ((q_len rfl (.cons rfl inferInstance (.nil)) (by exact fun w hw => Stb.cl (by assumption) hw))) ?_
  refine sr rfl rfl rfl ((q_move rfl rfl)) ?_
  refine sr rfl rfl rfl ((q_len rfl (.cons rfl inferInstance (.nil)) (by exact fun w hw => Stb.cl (by assumption) hw))) ?_
  refine sr rfl rfl rfl ((q_neq rfl rfl rfl)) (sw_nil (post_then ?_))
  refine cw_cond rfl (fun h => ?_) (fun h => ?_)
  · skip
    have h2 : ¬ a = b := fun e => by subst e; simp at h; omega
    refine cw_seq (cw_region (sr rfl rfl rfl ((q_assign rfl rfl)) (sw_nil (post_then (cw_ret (post_then_r (post_ret1 rfl (resOk_tmp rfl) ?_)))))))
    exact fun w' hw => ⟨by rw [decide_eq_false h2], hw⟩
  · skip
    have hl : a.length = b.length := by simp at h; omega
    refine cw_skip (post_then (cw_seq (cw_seq (cw_region (sr rfl rfl rfl ((q_assign rfl rfl)) (sw_nil (post_then (cw_block ?_))))))))
    refine cw_loop (S := Nat) (fun k => [(0, [], sa), (1, [], sb), (5, [], .int .i64 k)]) (fun _ => Cl w [] []) (fun k => k ≤ a.length ∧ ∀ j, j < k → nth a j = nth b j) (fun k => a.length - k) 0 ⟨Nat.zero_le _, fun j hj => by omega⟩ (by exact .cons rfl (.cons rfl (.cons rfl .nil))) (fun _ h => h) ?_
    rintro k ⟨hk, hbe⟩
    refine cw_seq (cw_seq (cw_region (sr rfl rfl rfl ((q_move rfl rfl)) (sr rfl rfl rfl ((q_move rfl rfl)) ?_))))
    refine sr rfl rfl rfl ((q_len rfl (.cons rfl inferInstance (.nil)) (by exact fun w hw => Stb.cl (by assumption) hw))) ?_
    refine sr rfl rfl rfl ((q_lss rfl rfl rfl)) (sw_nil (post_then ?_))
    refine cw_cond rfl (fun h2 => ?_) (fun h2 => ?_)
    · skip
      have hk' : k < a.length := by simp at h2; omega
      have r1 := stb_row ra hk'
      have r2 := stb_row rb (i := k) (by omega)
      refine cw_skip (post_then (cw_seq (cw_block (cw_seq ?_))))
      refine cw_region_q mixed_Tryz (by kernel_rfl) ?_
      refine qr rfl rfl rfl ((q_move rfl rfl)) (qr rfl rfl rfl ((q_move rfl rfl)) ?_)
      refine qr rfl rfl rfl ((q_indexN rfl rfl rfl (by exact fun w hw => Stb.cl (by assumption) hw) (by intro hc; omega))) ?_
      refine qr rfl rfl rfl ((q_loadEl rfl rfl rfl (by exact fun w hw => Stb.cl (by assumption) hw) (by intro hc; omega))) ?_
      refine qr rfl rfl rfl ((q_move rfl rfl)) (qr rfl rfl rfl ((q_move rfl rfl)) ?_)
      refine qr rfl rfl rfl ((q_indexN rfl rfl rfl (by exact fun w hw => Stb.cl (by assumption) hw) (by intro hc; omega))) ?_
      refine qr rfl rfl rfl ((q_loadEl rfl rfl rfl (by exact fun w hw => Stb.cl (by assumption) hw) (by intro hc; omega))) ?_
      refine qw_step rfl rfl rfl (q_call (CanCall.mk Tryz.call38) rfl (.cons rfl inferInstance (.cons rfl inferInstance (.nil))) (fun _ w hw => callq hw (order_spec _ _ _ _ w (by exact stb_arg hw (by assumption)) (by exact stb_arg hw (by assumption))))) ?_
      refine qr rfl rfl rfl ((q_neq rfl rfl rfl)) (qw_end (post_then ?_))
      refine cw_cond rfl (fun h3 => ?_) (fun h3 => ?_)
      · skip
        have h4 : ¬ a = b := fun e => by subst e; simp [ordL_self] at h3
        refine cw_seq (cw_region (sr rfl rfl rfl ((q_assign rfl rfl)) (sw_nil (post_then (cw_ret (post_blk_r (post_then_r (post_then_r (post_blk_r (post_then_r (post_ret1 rfl (resOk_tmp rfl) ?_)))))))))))
        exact fun w' hw => ⟨by rw [decide_eq_false h4], hw⟩
      · skip
        have h4 : nth a k = nth b k := by simp at h3; exact (ordL_eq _ _).1 h3
        refine cw_skip (post_blk (post_then (cw_region (sr rfl rfl rfl ((q_move rfl rfl)) ?_))))
        refine sr rfl rfl rfl ((q_add rfl rfl rfl (by intro hc; omega))) ?_
        refine sr rfl rfl rfl ((q_assign rfl rfl)) (sw_nil ?_)
        exact post_next (k + 1) (by exact .cons rfl (.cons rfl (.cons rfl .nil))) (fun _ h => h) ⟨by omega, fun j hj => by
          rcases Nat.lt_or_ge j k with h5 | h5
          · exact hbe j h5
          · have : j = k := by omega
            subst this; exact h4⟩ (by omega)
    · skip
      have hk' : k = a.length := by simp at h2; omega
      have h4 : a = b := List.ext_getElem hl fun i h5 h6 => by
        have := hbe i (by omega)
        rwa [nth_get h5, nth_get h6] at this
      refine cw_exit (post_then_x (post_then_x (post_blk_eq (post_then (cw_seq (cw_region (sr rfl rfl rfl ((q_assign rfl rfl)) (sw_nil (post_then (cw_ret (post_ret1 rfl (resOk_tmp rfl) ?_)))))))))))
      exact fun w' hw => ⟨by rw [decide_eq_true h4], hw⟩
end Go.Proofs.YtkmbliojafefdaaGreatDoor

set_option autoImplicit false
set_option maxRecDepth 100000
namespace Go.Proofs.YtkmbliojafefdaaGreatDoor
open Go.Sx
open Enc (enc val)
def vrune (c : Int) : Bool := (decide (0 ≤ c) && decide (c < 55296)) || (decide (57343 < c) && decide (c ≤ 1114111))
def possC (c : Int) : Bool := decide (33 ≤ c) && vrune c
theorem possC_le (c : Int) : (decide (33 ≤ c) && decide (c ≤ 1114111) && vrune c) = possC c := by
  unfold possC vrune
  rw [Bool.eq_iff_iff]; simp; omega
theorem validRune_spec (c : Int) (w : World) : Calls Tryz.prog 116 #[.int .i32 c] w fun e w' => e = .returned (.bool (vrune c)) ∧ Cl w [] [] w' := by
  refine calls_cw (vs := [_]) Tryz.func116 rfl Tryz.ntmps116 rfl (Cl.start0 w) (cw_seq (cw_region (sr rfl rfl rfl ((q_assign rfl rfl)) (sw_nil (post_then (cw_seq (cw_block (cw_seq (cw_region (sr rfl rfl rfl ((q_move rfl rfl)) (sr rfl rfl rfl ((q_leq rfl rfl rfl)) (sr rfl rfl rfl ((q_move rfl rfl)) (sr rfl rfl rfl ((q_move rfl rfl)) (sr rfl rfl rfl ((q_lss rfl rfl rfl)) (sr rfl rfl rfl ((q_and2 rfl rfl rfl)) (sr rfl rfl rfl ((q_assign rfl rfl)) (sw_nil (post_then ?_))))))))))))))))))
  refine cw_cond rfl (fun h => ?_) (fun h => ?_)
  · skip
    have e : vrune c = true := by simp only [vrune]; simp at h ⊢; omega
    refine cw_seq (cw_region (sr rfl rfl rfl ((q_assign rfl rfl)) (sw_nil (post_then (cw_ret (post_blk_r (post_then_r (post_ret1 rfl (resOk_tmp rfl) ?_))))))))
    exact fun w' hw => ⟨by rw [e], hw⟩
  · skip
    refine cw_seq (cw_region (sr rfl rfl rfl ((q_move rfl rfl)) (sr rfl rfl rfl ((q_lss rfl rfl rfl)) (sr rfl rfl rfl ((q_move rfl rfl)) (sr rfl rfl rfl ((q_move rfl rfl)) (sr rfl rfl rfl ((q_leq rfl rfl rfl)) (sr rfl rfl rfl ((q_and2 rfl rfl rfl)) (sr rfl rfl rfl ((q_assign rfl rfl)) (sw_nil (post_then ?_))))))))))
    refine cw_cond rfl (fun h2 => ?_) (fun h2 => ?_)
    · skip
      have e : vrune c = true := by simp only [vrune]; simp at h2 ⊢; omega
      refine cw_seq (cw_region (sr rfl rfl rfl ((q_assign rfl rfl)) (sw_nil (post_then (cw_ret (post_blk_r (post_then_r (post_ret1 rfl (resOk_tmp rfl) ?_))))))))
      exact fun w' hw => ⟨by rw [e], hw⟩
    · skip
      have e : vrune c = false := by simp only [vrune]; simp at h h2 ⊢; omega
      refine cw_skip (post_blk (post_then (cw_seq (cw_region (sr rfl rfl rfl ((q_assign rfl rfl)) (sw_nil (post_then (cw_ret (post_ret1 rfl (resOk_tmp rfl) ?_)))))))))
      exact fun w' hw => ⟨by rw [e], hw⟩
theorem possible_spec (c : Int) (w : World) : Calls Tryz.prog 76 #[.int .i32 c] w fun e w' => e = .returned (.bool (possC c)) ∧ Cl w [] [] w' := by
  refine calls_cw (vs := [_]) Tryz.func76 rfl Tryz.ntmps76 rfl (Cl.start0 w) (cw_seq (cw_region (sr rfl rfl rfl ((q_assign rfl rfl)) (sw_nil (post_then (cw_seq (cw_region (sr rfl rfl rfl ((q_move rfl rfl)) (sr rfl rfl rfl ((q_geq rfl rfl rfl)) (sr rfl rfl rfl ((q_move rfl rfl)) (sr rfl rfl rfl ((q_move rfl rfl)) (sr rfl rfl rfl ((q_leq rfl rfl rfl)) (sr rfl rfl rfl ((q_and2 rfl rfl rfl)) (sr rfl rfl rfl ((q_move rfl rfl)) (sr rfl rfl rfl ((q_move rfl rfl)) (sw_step rfl rfl rfl (q_call (CanCall.mk Tryz.call116) rfl (.cons rfl inferInstance (.nil)) (fun _ w hw => callq hw (validRune_spec _ w))) (sr rfl rfl rfl ((q_and2 rfl rfl rfl)) (sr rfl rfl rfl ((q_assign rfl rfl)) (sw_nil (post_then (cw_ret (post_ret1 rfl (resOk_tmp rfl) ?_))))))))))))))))))))))
  refine fun w' hw => ⟨by rw [← possC_le], hw⟩
theorem refLetter_spec (c : Int) (w : World) : Calls Tryz.prog 66 #[.int .i32 c] w fun e w' => e = .returned (.bool (possC c)) ∧ Cl w [] [] w' := by
  refine calls_cw (vs := [_]) Tryz.func66 rfl Tryz.ntmps66 rfl (Cl.start0 w) (cw_seq (cw_region (sr rfl rfl rfl ((q_assign rfl rfl)) (sw_nil (post_then (cw_seq (cw_region (sr rfl rfl rfl ((q_move rfl rfl)) (sr rfl rfl rfl ((q_geq rfl rfl rfl)) (sr rfl rfl rfl ((q_move rfl rfl)) (sr rfl rfl rfl ((q_move rfl rfl)) (sw_step rfl rfl rfl (q_call (CanCall.mk Tryz.call116) rfl (.cons rfl inferInstance (.nil)) (fun _ w hw => callq hw (validRune_spec _ w))) (sr rfl rfl rfl ((q_and2 rfl rfl rfl)) (sr rfl rfl rfl ((q_assign rfl rfl)) (sw_nil (post_then (cw_ret (post_ret1 rfl (resOk_tmp rfl) ?_))))))))))))))))))
  refine fun w' hw => ⟨rfl, hw⟩
end Go.Proofs.YtkmbliojafefdaaGreatDoor

set_option autoImplicit false
set_option maxRecDepth 100000
namespace Go.Proofs.YtkmbliojafefdaaGreatDoor
open Go.Sx
open Enc (enc val)
def PredR (P : Program) (g : FuncId) (cap : Array Value) (p : Int → Bool) (R : World → Prop) : Prop :=
  ∀ c : Int, ∀ w, R w → Calls P g (#[.int .i32 c] ++ cap) w fun e w' => e = .returned (.bool (p c)) ∧ Cl w [] [] w'
def idxS (p : Int → Bool) : List (Nat × Nat) → Int
  | [] => -1
  | x :: l => if p x.2 then x.1 else idxS p l
theorem idxS_any (p : Int → Bool) : ∀ l, decide (0 ≤ idxS p l) = l.any fun x => p x.2
  | [] => rfl
  | x :: l => by
    simp only [idxS, List.any_cons]
    by_cases h : p x.2 = true
    · simp [h]
    · simp [h, idxS_any p l]
theorem indexFunc_spec (s : ByteArray) (g : FuncId) (cap : Array Value) (p : Int → Bool) (R : World → Prop) (w : World) (hR : Stb w [] R) (hgc : CanCall Tryz.prog g) (hg : PredR Tryz.prog g cap p R) :
    Calls Tryz.prog 172 #[.string s, .func (.func g) #[] cap, .bool true] w fun e w' => e = .returned (.int .i64 (idxS p (runesP s 0))) ∧ Cl w [] [] w' := by
  refine calls_cw (vs := [_, _, _]) Tryz.func172 rfl Tryz.ntmps172 rfl (Cl.start0 w) (cw_seq (cw_region (sr rfl rfl rfl ((q_assign rfl rfl)) (sw_nil (post_then (cw_seq (cw_seq (cw_region (sr rfl rfl rfl ((q_move rfl rfl)) ?_)))))))))
  refine sw_x rfl rfl rfl (e_rangeS rfl rfl Tryz.underlying9) (fun r10 => ?_)
  refine sw_nil (post_then (cw_block ?_))
  refine cw_loop (S := Nat) (fun k => [(1, [], .func (.func g) #[] cap), (2, [], .bool true), (10, [], .pointer (some ⟨r10, 0, none⟩))]) (fun k => Cl w [] [obj r10 (.stringIter s k)]) (fun k => idxS p (runesP s 0) = idxS p (runesP s k)) (fun k => s.size - k) 0 rfl (by exact .cons rfl (.cons rfl (.cons rfl .nil))) (fun _ h => h) ?_
  intro k hbe
  refine cw_seq (cw_region ?_)
  refine sw_x rfl rfl rfl (e_nextS (i := 0) rfl rfl rfl) (fun y11 => ?_)
  refine sr rfl rfl rfl ((q_extract rfl rfl (nextSV_0 _ _))) (sw_nil (post_then (cw_seq ?_)))
  refine cw_cond rfl (fun h => ?_) (fun h => ?_)
  · skip
    have hk : k < s.size := by simpa using h
    have hp := decode_pos s k
    have hst := runesP_step hk
    have hnp : nextSP s k = k + (Utf8.decode s k).2 := by simp [nextSP, hk]
    refine cw_skip (post_then (cw_block (cw_seq (cw_region ?_))))
    refine sr rfl rfl rfl ((q_extract rfl rfl (nextSV_1 (by assumption)))) ?_
    refine sr rfl rfl rfl ((q_extract rfl rfl (nextSV_2 (by assumption)))) ?_
    refine sr rfl rfl rfl ((q_assign rfl rfl)) (sr rfl rfl rfl ((q_assign rfl rfl)) (sw_nil (post_then (cw_seq (cw_region (sr rfl rfl rfl ((q_move rfl rfl)) (sr rfl rfl rfl ((q_move rfl rfl)) (sw_step rfl rfl rfl (q_callv hgc rfl rfl (.cons rfl inferInstance (.nil)) (fun _ w' hw => callq hw (hg _ w' (hR.cl hw)))) (sr rfl rfl rfl ((q_move rfl rfl)) (sr rfl rfl rfl ((q_eql_b rfl rfl rfl Tryz.underlying4)) (sw_nil (post_then ?_))))))))))))
    refine cw_cond rfl (fun h2 => ?_) (fun h2 => ?_)
    · skip
      refine cw_seq (cw_region (sr rfl rfl rfl ((q_move rfl rfl)) (sr rfl rfl rfl ((q_assign rfl rfl)) (sw_nil (post_then (cw_ret (post_blk_r (post_then_r (post_blk_r (post_then_r (post_ret1 rfl (resOk_tmp rfl) ?_)))))))))))
      exact fun w' hw => ⟨by rw [hbe, hst]; simp at h2; simp [idxS, h2], (fun w h => Cl.sel (by exact .nil _) w h) _ hw⟩
    · skip
      refine cw_skip (post_blk ?_)
      exact post_next (k + (Utf8.decode s k).2) (by exact .cons rfl (.cons rfl (.cons rfl .nil))) (by rw [← hnp]; exact fun _ h => h) (by rw [hbe, hst]; simp at h2; simp [idxS, h2]) (by omega)
  · skip
    have hk : ¬ k < s.size := by simpa using h
    refine cw_exit (post_then_x (post_then_x (post_blk_eq (post_then (cw_seq (cw_region (sr rfl rfl rfl ((q_assign rfl rfl)) (sw_nil (post_then (cw_ret (post_ret1 rfl (resOk_tmp rfl) ?_)))))))))))
    exact fun w' hw => ⟨by rw [hbe, runesP_end hk]; rfl, (fun w h => Cl.sel (by exact .nil _) w h) _ hw⟩
end Go.Proofs.YtkmbliojafefdaaGreatDoor

/- Phones: strings of one to eight visible ASCII bytes. Plain. -/
set_option autoImplicit false
namespace Go.Sx
theorem get!_byteAt (s : ByteArray) (i : Nat) : (s.get! i).toNat = byteAt s i := by
  unfold byteAt
  congr 1
  show s.data[i]! = _
  by_cases h : i < s.data.size
  · rw [getElem!_pos s.data i h]
    have h' : i < s.size := h
    rw [getElem?_pos s i h']
    rfl
  · rw [getElem!_neg s.data i h]
    have h' : ¬ i < s.size := h
    rw [getElem?_neg s i h']
    rfl
theorem decode_ascii {s : ByteArray} {i : Nat} (h : byteAt s i < 128) : Utf8.decode s i = (byteAt s i, 1) := by
  unfold Utf8.decode
  simp only [Nat.add_zero, get!_byteAt]
  rw [if_pos (by omega)]
theorem decode_high {s : ByteArray} {i : Nat} (h : ¬ byteAt s i < 128) : 128 ≤ (Utf8.decode s i).1 := by
  unfold Utf8.decode
  simp only [Nat.add_zero, get!_byteAt, Utf8.runeError]
  rw [if_neg (by omega)]
  repeat' split
  all_goals first | (simp; done) | (rename_i h2; simp only [Bool.and_eq_true, decide_eq_true_eq, ge_iff_le] at h2; simp only; omega) | (simp only; omega)
def badB (n : Nat) : Bool := decide (n < 33) || decide (126 < n)
def phoneOk (s : ByteArray) : Bool := decide (1 ≤ s.size) && decide (s.size ≤ 8) && !(List.range s.size).any fun k => badB (byteAt s k)
theorem runesP_bad (s : ByteArray) : ∀ (n i : Nat), s.size - i = n → i ≤ s.size → ((runesP s i).any fun x => badB x.2) = (List.range' i n).any fun k => badB (byteAt s k) := by
  intro n
  induction n with
  | zero => intro i h1 h2; rw [runesP_end (by omega)]; rfl
  | succ n ih =>
    intro i h1 h2
    rw [runesP_step (by omega), List.range'_succ, List.any_cons, List.any_cons]
    by_cases hb : byteAt s i < 128
    · rw [decode_ascii hb]; dsimp only; rw [ih (i + 1) (by omega) (by omega)]
    · have h3 := decode_high hb
      have e1 : badB (Utf8.decode s i).1 = true := by simp [badB]; omega
      have e2 : badB (byteAt s i) = true := by simp [badB]; omega
      rw [e1, e2]; rfl
theorem phone_runes (s : ByteArray) : ((runesP s 0).any fun x => badB x.2) = (List.range s.size).any fun k => badB (byteAt s k) := by
  rw [runesP_bad s s.size 0 (by omega) (by omega), List.range_eq_range']
end Go.Sx

set_option autoImplicit false
set_option maxRecDepth 100000
namespace Go.Proofs.YtkmbliojafefdaaGreatDoor
open Go.Sx
open Enc (enc val)
theorem indexFunc2_spec (s : ByteArray) (g : FuncId) (cap : Array Value) (p : Int → Bool) (R : World → Prop) (w : World) (hR : Stb w [] R) (hgc : CanCall Tryz.prog g) (hg : PredR Tryz.prog g cap p R) :
    Calls Tryz.prog 144 #[.string s, .func (.func g) #[] cap] w fun e w' => e = .returned (.int .i64 (idxS p (runesP s 0))) ∧ Cl w [] [] w' := by
  refine calls_cw (vs := [_, _]) Tryz.func144 rfl Tryz.ntmps144 rfl (Cl.start0 w) (cw_seq (cw_region (sr rfl rfl rfl ((q_assign rfl rfl)) (sw_nil (post_then (cw_seq (cw_region (sr rfl rfl rfl ((q_move rfl rfl)) (sr rfl rfl rfl ((q_move rfl rfl)) (sw_step rfl rfl rfl (q_call (CanCall.mk Tryz.call172) rfl (.cons rfl inferInstance (.cons rfl inferInstance (.cons rfl inferInstance (.nil)))) (fun _ w hw => callq hw (indexFunc_spec _ _ _ _ _ w (stb_arg hw hR) hgc hg))) (sr rfl rfl rfl ((q_assign rfl rfl)) (sw_nil (post_then (cw_ret (post_ret1 rfl (resOk_tmp rfl) ?_)))))))))))))))
  exact fun w' hw => ⟨rfl, hw⟩
theorem containsFunc_spec (s : ByteArray) (g : FuncId) (cap : Array Value) (p : Int → Bool) (R : World → Prop) (w : World) (hR : Stb w [] R) (hgc : CanCall Tryz.prog g) (hg : PredR Tryz.prog g cap p R) :
    Calls Tryz.prog 108 #[.string s, .func (.func g) #[] cap] w fun e w' => e = .returned (.bool ((runesP s 0).any fun x => p x.2)) ∧ Cl w [] [] w' := by
  refine calls_cw (vs := [_, _]) Tryz.func108 rfl Tryz.ntmps108 rfl (Cl.start0 w) (cw_seq (cw_region (sr rfl rfl rfl ((q_assign rfl rfl)) (sw_nil (post_then (cw_seq (cw_region (sr rfl rfl rfl ((q_move rfl rfl)) (sr rfl rfl rfl ((q_move rfl rfl)) (sw_step rfl rfl rfl (q_call (CanCall.mk Tryz.call144) rfl (.cons rfl inferInstance (.cons rfl inferInstance (.nil))) (fun _ w hw => callq hw (indexFunc2_spec _ _ _ _ _ w (stb_arg hw hR) hgc hg))) (sr rfl rfl rfl ((q_geq rfl rfl rfl)) (sr rfl rfl rfl ((q_assign rfl rfl)) (sw_nil (post_then (cw_ret (post_ret1 rfl (resOk_tmp rfl) ?_))))))))))))))))
  exact fun w' hw => ⟨by rw [idxS_any], hw⟩
def badC (c : Int) : Bool := decide (c < 33) || decide (126 < c)
theorem bad_spec : PredR Tryz.prog 109 #[] badC (fun _ => True) := by
  intro c w _
  refine calls_cw (vs := [_]) Tryz.func109 rfl Tryz.ntmps109 rfl (Cl.start0 w) (cw_seq (cw_region (sr rfl rfl rfl ((q_assign rfl rfl)) (sw_nil (post_then (cw_seq (cw_region (sr rfl rfl rfl ((q_move rfl rfl)) (sr rfl rfl rfl ((q_lss rfl rfl rfl)) (sr rfl rfl rfl ((q_move rfl rfl)) (sr rfl rfl rfl ((q_move rfl rfl)) (sr rfl rfl rfl ((q_gtr rfl rfl rfl)) (sr rfl rfl rfl ((q_or2 rfl rfl rfl)) (sr rfl rfl rfl ((q_assign rfl rfl)) (sw_nil (post_then (cw_ret (post_ret1 rfl (resOk_tmp rfl) ?_))))))))))))))))))
  exact fun w' hw => ⟨by simp [badC], hw⟩
theorem badC_nat (n : Nat) : badC n = badB n := by
  unfold badC badB
  rw [Bool.eq_iff_iff]; simp; omega
theorem runes_bad (s : ByteArray) : ((runesP s 0).any fun x => badC x.2) = (List.range s.size).any fun k => badB (byteAt s k) := by
  rw [← phone_runes]; simp only [badC_nat]
def phonesOk (l : List ByteArray) (most : Int) : Bool := l.all phoneOk && decide ((l.length : Int) ≤ most)
theorem phonesOk_bad {l : List ByteArray} {most : Int} {k : Nat} (hk : k < l.length) (h : phoneOk (nth l k) = false) : phonesOk l most = false := by
  have : l.all phoneOk = false := by
    rw [List.all_eq_false]
    exact ⟨nth l k, by rw [nth_get hk]; exact List.getElem_mem hk, by simp [h]⟩
  simp [phonesOk, this]
theorem phonesOk_end {l : List ByteArray} {most : Int} (h : ∀ j, j < l.length → phoneOk (nth l j) = true) : phonesOk l most = decide ((l.length : Int) ≤ most) := by
  have : l.all phoneOk = true := by
    rw [List.all_eq_true]
    intro x hx
    obtain ⟨i, hi, rfl⟩ := List.getElem_of_mem hx
    rw [← nth_get hi]; exact h i hi
  simp [phonesOk, this]
theorem phones_spec (sv : Value) (l : List ByteArray) (most : Int) (w : World) (hs : Stb w [] (RdL sv l)) : Calls Tryz.prog 63 #[sv, .int .i64 most] w fun e w' => e = .returned (.bool (phonesOk l most)) ∧ Cl w [] [] w' := by
  have hL := rd_len hs.here
  refine calls_cw (vs := [_, _]) Tryz.func63 rfl Tryz.ntmps63 rfl (Cl.start0 w) (cw_seq (cw_region (sr rfl rfl rfl ((q_assign rfl rfl)) (sw_nil (post_then (cw_seq (cw_seq (cw_region (sr rfl rfl rfl ((q_move rfl rfl)) ?_)))))))))
  refine sr rfl rfl rfl ((q_len rfl (.cons rfl inferInstance (.nil)) (by exact fun w hw => Stb.cl (by assumption) hw))) ?_
  refine sr rfl rfl rfl ((q_move rfl rfl)) (sw_nil (post_then (cw_block ?_)))
  refine cw_loop (S := Nat) (fun k => [(0, [], sv), (1, [], .int .i64 most), (7, [], sv), (8, [], .int .i64 l.length), (9, [], .int .i64 k)]) (fun _ => Cl w [] []) (fun k => k ≤ l.length ∧ ∀ j, j < k → phoneOk (nth l j) = true) (fun k => l.length - k) 0 ⟨by omega, fun j hj => by omega⟩ (by exact .cons rfl (.cons rfl (.cons rfl (.cons rfl (.cons rfl .nil))))) (fun _ h => h) ?_
  rintro k ⟨hk, hbe⟩
  refine cw_seq (cw_region (sr rfl rfl rfl ((q_lss rfl rfl rfl)) (sw_nil (post_then (cw_seq ?_)))))
  refine cw_cond rfl (fun h => ?_) (fun h => ?_)
  · skip
    have hk' : k < l.length := by simp at h; omega
    refine cw_skip (post_then (cw_seq (cw_block (cw_seq (cw_region ?_)))))
    refine sr rfl rfl rfl ((q_indexN rfl rfl rfl (by exact fun w hw => Stb.cl (by assumption) hw) (by intro hc; omega))) ?_
    refine sr rfl rfl rfl ((q_loadEl rfl rfl rfl (by exact fun w hw => Stb.cl (by assumption) hw) (by intro hc; omega))) ?_
    refine sr rfl rfl rfl ((q_assign rfl rfl)) (sw_nil (post_then (cw_seq (cw_region (sr rfl rfl rfl ((q_move rfl rfl)) (sr rfl rfl rfl ((q_lenS rfl (.cons rfl inferInstance (.nil)) Tryz.underlying9)) (sr rfl rfl rfl ((q_lss rfl rfl rfl)) (sr rfl rfl rfl ((q_move rfl rfl)) (sr rfl rfl rfl ((q_move rfl rfl)) (sr rfl rfl rfl ((q_lenS rfl (.cons rfl inferInstance (.nil)) Tryz.underlying9)) (sr rfl rfl rfl ((q_gtr rfl rfl rfl)) (sr rfl rfl rfl ((q_or2 rfl rfl rfl)) (sr rfl rfl rfl ((q_move rfl rfl)) (sr rfl rfl rfl ((q_move rfl rfl)) (sw_step rfl rfl rfl (q_call (CanCall.mk Tryz.call108) rfl (.cons rfl inferInstance (.cons rfl inferInstance (.nil))) (fun _ w hw => callq hw (containsFunc_spec _ _ _ _ _ w (stb_true w []) (CanCall.mk Tryz.call109) bad_spec))) (sr rfl rfl rfl ((q_or2 rfl rfl rfl)) (sw_nil (post_then ?_))))))))))))))))))
    refine cw_cond rfl (fun h2 => ?_) (fun h2 => ?_)
    · skip
      have h3 : phoneOk (nth l k) = false := by
        rw [runes_bad] at h2
        cases h5 : phoneOk (nth l k)
        · rfl
        · exfalso
          simp only [phoneOk, Bool.and_eq_true, decide_eq_true_eq, Bool.not_eq_true'] at h5
          rw [h5.2] at h2
          simp at h2; omega
      refine cw_seq (cw_region (sr rfl rfl rfl ((q_assign rfl rfl)) (sw_nil (post_then (cw_ret (post_blk_r (post_then_r (post_then_r (post_blk_r (post_then_r (post_ret1 rfl (resOk_tmp rfl) ?_)))))))))))
      exact fun w' hw => ⟨by rw [phonesOk_bad hk' h3], hw⟩
    · skip
      have h3 : phoneOk (nth l k) = true := by
        rw [runes_bad] at h2
        simp only [Bool.or_eq_false_iff, decide_eq_false_iff_not] at h2
        simp only [phoneOk, h2.2, Bool.and_eq_true, decide_eq_true_eq, Bool.not_false, and_true]
        omega
      refine cw_skip (post_blk (post_then (cw_region ?_)))
      refine sr rfl rfl rfl ((q_add rfl rfl rfl (by intro hc; omega))) ?_
      refine sr rfl rfl rfl ((q_move rfl rfl)) (sw_nil ?_)
      refine post_next (k + 1) (by exact .cons rfl (.cons rfl (.cons rfl (.cons rfl (.cons rfl .nil))))) (fun _ h => h) ⟨by omega, fun j hj => ?_⟩ (by omega)
      by_cases hjk : j = k
      · rw [hjk]; exact h3
      · exact hbe j (by omega)
  · skip
    have hk' : k = l.length := by simp at h; omega
    subst hk'
    refine cw_exit (post_then_x (post_then_x (post_blk_eq (post_then (cw_seq (cw_region (sr rfl rfl rfl ((q_move rfl rfl)) ?_)))))))
    refine sr rfl rfl rfl ((q_len rfl (.cons rfl inferInstance (.nil)) (by exact fun w hw => Stb.cl (by assumption) hw))) ?_
    refine sr rfl rfl rfl ((q_move rfl rfl)) (sr rfl rfl rfl ((q_leq rfl rfl rfl)) (sr rfl rfl rfl ((q_assign rfl rfl)) (sw_nil (post_then (cw_ret (post_ret1 rfl (resOk_tmp rfl) ?_))))))
    exact fun w' hw => ⟨by rw [phonesOk_end hbe], hw⟩
theorem refPhones_spec (sv : Value) (l : List ByteArray) (most : Int) (w : World) (hs : Stb w [] (RdL sv l)) (hz : ∀ b ∈ l, b.size ≤ 9223372036854775807) : Calls Tryz.prog 23 #[sv, .int .i64 most] w fun e w' => e = .returned (.bool (phonesOk l most)) ∧ Cl w [] [] w' := by
  have hL := rd_len hs.here
  refine calls_cw (vs := [_, _]) Tryz.func23 rfl Tryz.ntmps23 rfl (Cl.start0 w) (cw_seq (cw_region (sr rfl rfl rfl ((q_assign rfl rfl)) (sw_nil (post_then (cw_seq (cw_seq (cw_region (sr rfl rfl rfl ((q_assign rfl rfl)) (sw_nil (post_then (cw_block ?_))))))))))))
  refine cw_loop (S := Nat) (fun k => [(0, [], sv), (1, [], .int .i64 most), (5, [], .int .i64 k)]) (fun _ => Cl w [] []) (fun k => k ≤ l.length ∧ ∀ j, j < k → phoneOk (nth l j) = true) (fun k => l.length - k) 0 ⟨by omega, fun j hj => by omega⟩ (by exact .cons rfl (.cons rfl (.cons rfl .nil))) (fun _ h => h) ?_
  rintro k ⟨hk, hbe⟩
  refine cw_seq (cw_seq (cw_region (sr rfl rfl rfl ((q_move rfl rfl)) (sr rfl rfl rfl ((q_move rfl rfl)) ?_))))
  refine sr rfl rfl rfl ((q_len rfl (.cons rfl inferInstance (.nil)) (by exact fun w hw => Stb.cl (by assumption) hw))) ?_
  refine sr rfl rfl rfl ((q_lss rfl rfl rfl)) (sw_nil (post_then ?_))
  refine cw_cond rfl (fun h => ?_) (fun h => ?_)
  · skip
    have hk' : k < l.length := by simp at h; omega
    have hsz := hz _ (by rw [nth_get hk']; exact List.getElem_mem hk' : nth l k ∈ l)
    refine cw_skip (post_then (cw_seq (cw_block (cw_seq (cw_seq (cw_region (sr rfl rfl rfl ((q_move rfl rfl)) (sr rfl rfl rfl ((q_move rfl rfl)) ?_))))))))
    refine sr rfl rfl rfl ((q_indexN rfl rfl rfl (by exact fun w hw => Stb.cl (by assumption) hw) (by intro hc; omega))) ?_
    refine sr rfl rfl rfl ((q_loadEl rfl rfl rfl (by exact fun w hw => Stb.cl (by assumption) hw) (by intro hc; omega))) ?_
    refine sr rfl rfl rfl ((q_lenS rfl (.cons rfl inferInstance (.nil)) Tryz.underlying9)) (sr rfl rfl rfl ((q_lss rfl rfl rfl)) (sr rfl rfl rfl ((q_move rfl rfl)) (sr rfl rfl rfl ((q_move rfl rfl)) (sr rfl rfl rfl ((q_move rfl rfl)) ?_))))
    refine sr rfl rfl rfl ((q_indexN rfl rfl rfl (by exact fun w hw => Stb.cl (by assumption) hw) (by intro hc; omega))) ?_
    refine sr rfl rfl rfl ((q_loadEl rfl rfl rfl (by exact fun w hw => Stb.cl (by assumption) hw) (by intro hc; omega))) ?_
    refine sr rfl rfl rfl ((q_lenS rfl (.cons rfl inferInstance (.nil)) Tryz.underlying9)) (sr rfl rfl rfl ((q_gtr rfl rfl rfl)) (sr rfl rfl rfl ((q_or2 rfl rfl rfl)) (sw_nil (post_then ?_))))
    refine cw_cond rfl (fun h2 => ?_) (fun h2 => ?_)
    · skip
      have h3 : phoneOk (nth l k) = false := by
        cases h5 : phoneOk (nth l k)
        · rfl
        · exfalso
          simp only [phoneOk, Bool.and_eq_true, decide_eq_true_eq, Bool.not_eq_true'] at h5
          simp at h2; omega
      refine cw_seq (cw_region (sr rfl rfl rfl ((q_assign rfl rfl)) (sw_nil (post_then (cw_ret (post_then_r (post_blk_r (post_then_r (post_then_r (post_blk_r (post_then_r (post_ret1 rfl (resOk_tmp rfl) ?_))))))))))))
      exact fun w' hw => ⟨by rw [phonesOk_bad hk' h3], hw⟩
    · skip
      refine cw_skip (post_then (cw_seq (cw_region (sr rfl rfl rfl ((q_assign rfl rfl)) (sw_nil (post_then (cw_block ?_)))))))
      refine cw_loop (S := Nat) (fun i => [(0, [], sv), (1, [], .int .i64 most), (5, [], .int .i64 k), (6, [], .int .i64 i)]) (fun _ => Cl w [] []) (fun i => i ≤ (nth l k).size ∧ ∀ j, j < i → badB (byteAt (nth l k) j) = false) (fun i => (nth l k).size - i) 0 ⟨by omega, fun j hj => by omega⟩ (by exact .cons rfl (.cons rfl (.cons rfl (.cons rfl .nil)))) (fun _ h => h) ?_
      rintro i ⟨hi, hbi⟩
      refine cw_seq (cw_seq (cw_region (sr rfl rfl rfl ((q_move rfl rfl)) (sr rfl rfl rfl ((q_move rfl rfl)) (sr rfl rfl rfl ((q_move rfl rfl)) ?_)))))
      refine sr rfl rfl rfl ((q_indexN rfl rfl rfl (by exact fun w hw => Stb.cl (by assumption) hw) (by intro hc; omega))) ?_
      refine sr rfl rfl rfl ((q_loadEl rfl rfl rfl (by exact fun w hw => Stb.cl (by assumption) hw) (by intro hc; omega))) ?_
      refine sr rfl rfl rfl ((q_lenS rfl (.cons rfl inferInstance (.nil)) Tryz.underlying9)) (sr rfl rfl rfl ((q_lss rfl rfl rfl)) (sw_nil (post_then ?_)))
      refine cw_cond rfl (fun h4 => ?_) (fun h4 => ?_)
      · skip
        have hi' : i < (nth l k).size := by simp at h4; omega
        refine cw_skip (post_then (cw_seq (cw_block (cw_seq (cw_region (sr rfl rfl rfl ((q_move rfl rfl)) (sr rfl rfl rfl ((q_move rfl rfl)) ?_)))))))
        refine sr rfl rfl rfl ((q_indexN rfl rfl rfl (by exact fun w hw => Stb.cl (by assumption) hw) (by intro hc; omega))) ?_
        refine sr rfl rfl rfl ((q_loadEl rfl rfl rfl (by exact fun w hw => Stb.cl (by assumption) hw) (by intro hc; omega))) ?_
        refine sr rfl rfl rfl ((q_move rfl rfl)) ?_
        refine sr rfl rfl rfl ((q_indexS rfl rfl rfl Tryz.underlying9 (by intro hc; omega))) ?_
        refine sr rfl rfl rfl ((q_lss rfl rfl rfl)) (sr rfl rfl rfl ((q_move rfl rfl)) (sr rfl rfl rfl ((q_move rfl rfl)) (sr rfl rfl rfl ((q_move rfl rfl)) ?_)))
        refine sr rfl rfl rfl ((q_indexN rfl rfl rfl (by exact fun w hw => Stb.cl (by assumption) hw) (by intro hc; omega))) ?_
        refine sr rfl rfl rfl ((q_loadEl rfl rfl rfl (by exact fun w hw => Stb.cl (by assumption) hw) (by intro hc; omega))) ?_
        refine sr rfl rfl rfl ((q_move rfl rfl)) ?_
        refine sr rfl rfl rfl ((q_indexS rfl rfl rfl Tryz.underlying9 (by intro hc; omega))) ?_
        refine sr rfl rfl rfl ((q_gtr rfl rfl rfl)) (sr rfl rfl rfl ((q_or2 rfl rfl rfl)) (sw_nil (post_then ?_)))
        refine cw_cond rfl (fun h5 => ?_) (fun h5 => ?_)
        · skip
          have h3 : phoneOk (nth l k) = false := by
            have h6 : (List.range (nth l k).size).any (fun j => badB (byteAt (nth l k) j)) = true := List.any_eq_true.2 ⟨i, List.mem_range.2 hi', by simp at h5; simp [badB]; omega⟩
            simp [phoneOk, h6]
          refine cw_seq (cw_region (sr rfl rfl rfl ((q_assign rfl rfl)) (sw_nil (post_then (cw_ret (post_blk_r (post_then_r (post_then_r (post_blk_r (post_blk_r (post_then_r (post_then_r (post_blk_r (post_then_r (post_ret1 rfl (resOk_tmp rfl) ?_)))))))))))))))
          exact fun w' hw => ⟨by rw [phonesOk_bad hk' h3], hw⟩
        · skip
          refine cw_skip (post_blk (post_then (cw_region (sr rfl rfl rfl ((q_move rfl rfl)) ?_))))
          refine sr rfl rfl rfl ((q_add rfl rfl rfl (by intro hc; omega))) ?_
          refine sr rfl rfl rfl ((q_assign rfl rfl)) (sw_nil ?_)
          refine post_next (i + 1) (by exact .cons rfl (.cons rfl (.cons rfl (.cons rfl .nil)))) (fun _ h => h) ⟨by omega, fun j hj => ?_⟩ (by omega)
          by_cases hjk : j = i
          · rw [hjk]; simp at h5; simp [badB]; omega
          · exact hbi j (by omega)
      · skip
        have hi' : i = (nth l k).size := by simp at h4; omega
        have h3 : phoneOk (nth l k) = true := by
          have h6 : (List.range (nth l k).size).any (fun j => badB (byteAt (nth l k) j)) = false := by
            rw [List.any_eq_false]
            intro j hj
            rw [List.mem_range] at hj
            rw [hbi j (by omega)]; decide
          simp at h2
          simp [phoneOk, h6]; omega
        refine cw_exit (post_then_x (post_then_x (post_blk_eq (post_blk (post_then (cw_region (sr rfl rfl rfl ((q_move rfl rfl)) ?_)))))))
        refine sr rfl rfl rfl ((q_add rfl rfl rfl (by intro hc; omega))) ?_
        refine sr rfl rfl rfl ((q_assign rfl rfl)) (sw_nil ?_)
        refine post_next (k + 1) (by exact .cons rfl (.cons rfl (.cons rfl .nil))) (fun _ h => h) ⟨by omega, fun j hj => ?_⟩ (by omega)
        by_cases hjk : j = k
        · rw [hjk]; exact h3
        · exact hbe j (by omega)
  · skip
    have hk' : k = l.length := by simp at h; omega
    subst hk'
    refine cw_exit (post_then_x (post_then_x (post_blk_eq (post_then (cw_seq (cw_region (sr rfl rfl rfl ((q_move rfl rfl)) ?_)))))))
    refine sr rfl rfl rfl ((q_len rfl (.cons rfl inferInstance (.nil)) (by exact fun w hw => Stb.cl (by assumption) hw))) ?_
    refine sr rfl rfl rfl ((q_move rfl rfl)) (sr rfl rfl rfl ((q_leq rfl rfl rfl)) (sr rfl rfl rfl ((q_assign rfl rfl)) (sw_nil (post_then (cw_ret (post_ret1 rfl (resOk_tmp rfl) ?_))))))
    exact fun w' hw => ⟨by rw [phonesOk_end hbe], hw⟩
/-- The law's own look at a list of phones. -/
def lawPh (l : List ByteArray) (most : Int) : Bool := decide ((l.length : Int) ≤ most) && l.all fun b => decide (b.size ≤ 12)
theorem lawPhones_spec (sv : Value) (l : List ByteArray) (most : Int) (h0 : 0 ≤ most ∧ most ≤ 1000) (w : World) (hs : Stb w [] (RdL sv l)) : Calls Tryz.prog 18 #[sv, .int .i64 most] w fun e w' => e = .returned (.bool (lawPh l most)) ∧ Cl w [] [] w' := by
  have hL := rd_len hs.here
  refine calls_cw (vs := [_, _]) Tryz.func18 rfl Tryz.ntmps18 rfl (Cl.start0 w) (cw_seq (cw_region (sr rfl rfl rfl ((q_assign rfl rfl)) (sw_nil (post_then (cw_seq (cw_seq (cw_region (sr rfl rfl rfl ((q_assign rfl rfl)) (sw_nil (post_then (cw_block ?_))))))))))))
  refine cw_loop (S := Nat) (fun k => [(0, [], sv), (1, [], .int .i64 most), (5, [], .int .i64 k)]) (fun _ => Cl w [] []) (fun k => k ≤ l.length ∧ k ≤ most + 1 ∧ ∀ j, j < k → (nth l j).size ≤ 12) (fun k => l.length - k) 0 ⟨by omega, by omega, fun j hj => by omega⟩ (by exact .cons rfl (.cons rfl (.cons rfl .nil))) (fun _ h => h) ?_
  rintro k ⟨hk, hkm, hbe⟩
  refine cw_seq (cw_seq (cw_region (sr rfl rfl rfl ((q_move rfl rfl)) (sr rfl rfl rfl ((q_move rfl rfl)) ?_))))
  refine sr rfl rfl rfl ((q_len rfl (.cons rfl inferInstance (.nil)) (by exact fun w hw => Stb.cl (by assumption) hw))) ?_
  refine sr rfl rfl rfl ((q_lss rfl rfl rfl)) (sr rfl rfl rfl ((q_move rfl rfl)) (sr rfl rfl rfl ((q_move rfl rfl)) (sr rfl rfl rfl ((q_move rfl rfl)) (sr rfl rfl rfl ((q_leq rfl rfl rfl)) (sr rfl rfl rfl ((q_and2 rfl rfl rfl)) (sw_nil (post_then ?_)))))))
  refine cw_cond rfl (fun h => ?_) (fun h => ?_)
  · skip
    have hk' : k < l.length ∧ k ≤ most := by simp at h; omega
    refine cw_skip (post_then (cw_seq (cw_block (cw_seq (cw_region (sr rfl rfl rfl ((q_move rfl rfl)) (sr rfl rfl rfl ((q_move rfl rfl)) ?_)))))))
    refine sr rfl rfl rfl ((q_indexN rfl rfl rfl (by exact fun w hw => Stb.cl (by assumption) hw) (by intro hc; omega))) ?_
    refine sr rfl rfl rfl ((q_loadEl rfl rfl rfl (by exact fun w hw => Stb.cl (by assumption) hw) (by intro hc; omega))) ?_
    refine sr rfl rfl rfl ((q_lenS rfl (.cons rfl inferInstance (.nil)) Tryz.underlying9)) (sr rfl rfl rfl ((q_gtr rfl rfl rfl)) (sw_nil (post_then ?_)))
    refine cw_cond rfl (fun h2 => ?_) (fun h2 => ?_)
    · skip
      have h3 : lawPh l most = false := by
        have : (l.all fun b => decide (b.size ≤ 12)) = false := by
          rw [List.all_eq_false]
          exact ⟨nth l k, by rw [nth_get hk'.1]; exact List.getElem_mem hk'.1, by simp at h2 ⊢; omega⟩
        simp [lawPh, this]
      refine cw_seq (cw_region (sr rfl rfl rfl ((q_assign rfl rfl)) (sw_nil (post_then (cw_ret (post_blk_r (post_then_r (post_then_r (post_blk_r (post_then_r (post_ret1 rfl (resOk_tmp rfl) ?_)))))))))))
      exact fun w' hw => ⟨by rw [h3], hw⟩
    · skip
      refine cw_skip (post_blk (post_then (cw_region (sr rfl rfl rfl ((q_move rfl rfl)) ?_))))
      refine sr rfl rfl rfl ((q_add rfl rfl rfl (by intro hc; omega))) ?_
      refine sr rfl rfl rfl ((q_assign rfl rfl)) (sw_nil ?_)
      refine post_next (k + 1) (by exact .cons rfl (.cons rfl (.cons rfl .nil))) (fun _ h => h) ⟨by omega, by omega, fun j hj => ?_⟩ (by omega)
      by_cases hjk : j = k
      · rw [hjk]; simp at h2; omega
      · exact hbe j (by omega)
  · skip
    have h3 : lawPh l most = decide ((l.length : Int) ≤ most) := by
      unfold lawPh
      by_cases h4 : (l.length : Int) ≤ most
      · have h5 : k = l.length := by simp at h; omega
        have : (l.all fun b => decide (b.size ≤ 12)) = true := by
          rw [List.all_eq_true]
          intro x hx
          obtain ⟨i, hi, rfl⟩ := List.getElem_of_mem hx
          rw [← nth_get hi]; simpa using hbe i (by omega)
        simp [this]
      · simp [h4]
    refine cw_exit (post_then_x (post_then_x (post_blk_eq (post_then (cw_seq (cw_region (sr rfl rfl rfl ((q_move rfl rfl)) ?_)))))))
    refine sr rfl rfl rfl ((q_len rfl (.cons rfl inferInstance (.nil)) (by exact fun w hw => Stb.cl (by assumption) hw))) ?_
    refine sr rfl rfl rfl ((q_move rfl rfl)) (sr rfl rfl rfl ((q_leq rfl rfl rfl)) (sr rfl rfl rfl ((q_assign rfl rfl)) (sw_nil (post_then (cw_ret (post_ret1 rfl (resOk_tmp rfl) ?_))))))
    exact fun w' hw => ⟨by rw [h3], hw⟩
end Go.Proofs.YtkmbliojafefdaaGreatDoor

/- Strings in order. Plain. -/
set_option autoImplicit false
namespace Go.Sx
theorem ba_toList (a : ByteArray) : a.toList = a.data.toList := by
  have hsz : a.data.toList.length = a.size := Array.length_toList
  have key : ∀ (n i : Nat) (r : List UInt8), a.size - i = n → ByteArray.toList.loop a i r = r.reverse ++ a.data.toList.drop i := by
    intro n
    induction n with
    | zero =>
      intro i r h
      unfold ByteArray.toList.loop
      have h1 : ¬ i < a.size := by omega
      have h2 : a.data.toList.length ≤ i := by omega
      rw [if_neg h1, List.drop_eq_nil_of_le h2]; simp
    | succ n ih =>
      intro i r h
      unfold ByteArray.toList.loop
      have h1 : i < a.size := by omega
      have h3 : i < a.data.toList.length := by omega
      rw [if_pos h1, ih (i + 1) _ (by omega), List.drop_eq_getElem_cons h3]
      have : a.get! i = a.data.toList[i] := by
        show a.data[i]! = _
        rw [getElem!_pos a.data i (by simpa using h3)]; simp
      simp [this]
  have := key a.size 0 [] (by omega)
  simpa [ByteArray.toList] using this
/-- How two strings compare. -/
def cmpS (a b : ByteArray) : Int := if a = b then 0 else if sLt a b then -1 else 1
theorem bl_cmp : ∀ a b : List UInt8, Lib.compareBytes a b = if a = b then 0 else if Op.bytesLess a b then -1 else 1
  | [], [] => by simp [Lib.compareBytes]
  | [], _ :: _ => by simp [Lib.compareBytes, Op.bytesLess]
  | _ :: _, [] => by simp [Lib.compareBytes, Op.bytesLess]
  | a :: x, b :: y => by
    have ih := bl_cmp x y
    by_cases h : a = b
    · subst h
      simp only [Lib.compareBytes, UInt8.lt_irrefl, if_false, ih, Op.bytesLess, List.cons.injEq, true_and]
      simp
    · by_cases h2 : a < b
      · simp [Lib.compareBytes, h, h2, Op.bytesLess]
      · have h3 : b < a := by
          rcases UInt8.lt_or_lt_of_ne h with h4 | h4
          · exact absurd h4 h2
          · exact h4
        simp [Lib.compareBytes, h, h2, h3, Op.bytesLess]
theorem cmpS_eq (a b : ByteArray) : Lib.compareBytes a.data.toList b.data.toList = cmpS a b := by
  rw [bl_cmp]
  unfold cmpS sLt
  rw [ba_toList, ba_toList]
  have : (a.data.toList = b.data.toList) ↔ a = b := ⟨fun h => str_inj (by rw [ba_toList, ba_toList, h]), fun h => by rw [h]⟩
  simp only [this]
theorem bl_trans : ∀ {a b c : List UInt8}, Op.bytesLess a b = true → Op.bytesLess b c = true → Op.bytesLess a c = true
  | _, [], _, h, _ => by simp [Op.bytesLess] at h
  | _, _ :: _, [], _, h => by simp [Op.bytesLess] at h
  | [], _ :: _, _ :: _, _, _ => by simp [Op.bytesLess]
  | a :: x, b :: y, c :: z, h1, h2 => by
    simp only [Op.bytesLess, Bool.or_eq_true, decide_eq_true_eq, Bool.and_eq_true, beq_iff_eq] at h1 h2 ⊢
    rcases h1 with h1 | ⟨rfl, h1⟩
    · rcases h2 with h2 | ⟨rfl, h2⟩
      · exact .inl (UInt8.lt_trans h1 h2)
      · exact .inl h1
    · rcases h2 with h2 | ⟨rfl, h2⟩
      · exact .inl h2
      · exact .inr ⟨rfl, bl_trans h1 h2⟩
theorem bl_tri : ∀ a b : List UInt8, Op.bytesLess a b = true ∨ a = b ∨ Op.bytesLess b a = true
  | [], [] => .inr (.inl rfl)
  | [], _ :: _ => .inl rfl
  | _ :: _, [] => .inr (.inr rfl)
  | a :: x, b :: y => by
    simp only [Op.bytesLess, Bool.or_eq_true, decide_eq_true_eq, Bool.and_eq_true, beq_iff_eq, List.cons.injEq]
    by_cases h : a = b
    · subst h
      rcases bl_tri x y with h | h | h
      · exact .inl (.inr ⟨rfl, h⟩)
      · exact .inr (.inl ⟨rfl, h⟩)
      · exact .inr (.inr (.inr ⟨rfl, h⟩))
    · rcases UInt8.lt_or_lt_of_ne h with h2 | h2
      · exact .inl (.inl h2)
      · exact .inr (.inr (.inl h2))
theorem sLt_trans {a b c : ByteArray} (h1 : sLt a b = true) (h2 : sLt b c = true) : sLt a c = true := bl_trans h1 h2
theorem sLt_tri (a b : ByteArray) : sLt a b = true ∨ a = b ∨ sLt b a = true := by
  rcases bl_tri a.toList b.toList with h | h | h
  · exact .inl h
  · exact .inr (.inl (str_inj h))
  · exact .inr (.inr h)
end Go.Sx

set_option autoImplicit false
set_option maxRecDepth 100000
namespace Go.Proofs.YtkmbliojafefdaaGreatDoor
open Go.Sx
open Enc (enc val)
theorem isNaNR_spec (x : Int) (w : World) : Calls Tryz.prog 121 #[.int .i32 x] w fun e w' => e = .returned (.bool false) ∧ Cl w [] [] w' := by
  refine calls_cw (vs := [_]) Tryz.func121 rfl Tryz.ntmps121 rfl (Cl.start0 w) (cw_seq (cw_region (sr rfl rfl rfl ((q_assign rfl rfl)) (sw_nil (post_then (cw_seq (cw_region (sr rfl rfl rfl ((q_move rfl rfl)) (sr rfl rfl rfl ((q_move rfl rfl)) (sr rfl rfl rfl ((q_neq rfl rfl rfl)) (sr rfl rfl rfl ((q_assign rfl rfl)) (sw_nil (post_then (cw_ret (post_ret1 rfl (resOk_tmp rfl) ?_)))))))))))))))
  refine fun w' hw => ⟨by simp, hw⟩
theorem isNaNI_spec (x : Int) (w : World) : Calls Tryz.prog 211 #[.int .i64 x] w fun e w' => e = .returned (.bool false) ∧ Cl w [] [] w' := by
  refine calls_cw (vs := [_]) Tryz.func211 rfl Tryz.ntmps211 rfl (Cl.start0 w) (cw_seq (cw_region (sr rfl rfl rfl ((q_assign rfl rfl)) (sw_nil (post_then (cw_seq (cw_region (sr rfl rfl rfl ((q_move rfl rfl)) (sr rfl rfl rfl ((q_move rfl rfl)) (sr rfl rfl rfl ((q_neq rfl rfl rfl)) (sr rfl rfl rfl ((q_assign rfl rfl)) (sw_nil (post_then (cw_ret (post_ret1 rfl (resOk_tmp rfl) ?_)))))))))))))))
  refine fun w' hw => ⟨by simp, hw⟩
theorem isNaNS_spec (x : ByteArray) (w : World) : Calls Tryz.prog 193 #[.string x] w fun e w' => e = .returned (.bool false) ∧ Cl w [] [] w' := by
  refine calls_cw (vs := [_]) Tryz.func193 rfl Tryz.ntmps193 rfl (Cl.start0 w) (cw_seq (cw_region (sr rfl rfl rfl ((q_assign rfl rfl)) (sw_nil (post_then (cw_seq (cw_region (sr rfl rfl rfl ((q_move rfl rfl)) (sr rfl rfl rfl ((q_move rfl rfl)) (sr rfl rfl rfl ((q_neqStr rfl rfl rfl Tryz.underlying9)) (sr rfl rfl rfl ((q_assign rfl rfl)) (sw_nil (post_then (cw_ret (post_ret1 rfl (resOk_tmp rfl) ?_)))))))))))))))
  refine fun w' hw => ⟨by simp, hw⟩
theorem sgn_lt {x y : Int} (h : x < y) : sgn (x - y) = -1 := by unfold sgn; rw [if_pos (by omega)]
theorem sgn_gt {x y : Int} (h : y < x) : sgn (x - y) = 1 := by unfold sgn; rw [if_neg (by omega), if_pos (by omega)]
theorem sgn_eq {x y : Int} (h : ¬ x < y) (h2 : ¬ y < x) : sgn (x - y) = 0 := by unfold sgn; rw [if_neg (by omega), if_neg (by omega)]
theorem cmpS_lt {x y : ByteArray} (h : sLt x y = true) : cmpS x y = -1 := by unfold cmpS; rw [if_neg (fun e => by rw [e, sLt_irr] at h; cases h), if_pos h]
theorem cmpS_self (x : ByteArray) : cmpS x x = 0 := by unfold cmpS; rw [if_pos rfl]
theorem cmpS_zero {x y : ByteArray} : cmpS x y = 0 ↔ x = y := by
  unfold cmpS
  by_cases h : x = y
  · simp [h]
  · rw [if_neg h]; split <;> simp [h]
theorem cmpS_gt2 {x y : ByteArray} (h2 : (!(sLt x y || decide (x = y))) = true) : cmpS x y = 1 := by
  simp at h2
  unfold cmpS; rw [if_neg h2.2, if_neg (by simp [h2.1])]
theorem cmpS_no2 {x y : ByteArray} (h : sLt x y = false) (h2 : (!(sLt x y || decide (x = y))) = false) : cmpS x y = 0 := by
  simp [h] at h2; rw [h2, cmpS_self]
theorem compareR_spec (x y : Int) (w : World) : Calls Tryz.prog 75 #[.int .i32 x, .int .i32 y] w fun e w' => e = .returned (.int .i64 (sgn (x - y))) ∧ Cl w [] [] w' := by
  refine calls_cw (vs := [_, _]) Tryz.func75 rfl Tryz.ntmps75 rfl (Cl.start0 w) (cw_seq (cw_region (sr rfl rfl rfl ((q_assign rfl rfl)) (sw_nil (post_then (cw_seq (cw_region (sr rfl rfl rfl ((q_move rfl rfl)) (sw_step rfl rfl rfl (q_call (CanCall.mk Tryz.call121) rfl (.cons rfl inferInstance (.nil)) (fun _ w hw => callq hw (isNaNR_spec _ w))) (sr rfl rfl rfl ((q_assign rfl rfl)) (sw_nil (post_then (cw_seq (cw_region (sr rfl rfl rfl ((q_move rfl rfl)) (sw_step rfl rfl rfl (q_call (CanCall.mk Tryz.call121) rfl (.cons rfl inferInstance (.nil)) (fun _ w hw => callq hw (isNaNR_spec _ w))) (sr rfl rfl rfl ((q_assign rfl rfl)) (sw_nil (post_then (cw_seq (cw_seq (cw_region (sr rfl rfl rfl ((q_move rfl rfl)) (sw_nil (post_then ?_)))))))))))))))))))))))))
  refine cw_cond rfl (fun h0 => ?_) (fun h0 => ?_)
  · skip
    exact absurd h0 (by decide)
  · skip
    refine cw_skip (post_then (cw_seq (cw_seq (cw_region (sr rfl rfl rfl ((q_move rfl rfl)) (sw_nil (post_then ?_)))))))
    refine cw_cond rfl (fun h1 => ?_) (fun h1 => ?_)
    · skip
      exact absurd h1 (by decide)
    · skip
      refine cw_skip (post_then (cw_seq (cw_seq (cw_region (sr rfl rfl rfl ((q_move rfl rfl)) (sr rfl rfl rfl ((q_move rfl rfl)) (sr rfl rfl rfl ((q_lss rfl rfl rfl)) (sw_nil (post_then ?_)))))))))
      refine cw_cond rfl (fun h => ?_) (fun h => ?_)
      · skip
        have e : sgn (x - y) = -1 := by exact sgn_lt (by simpa using h)
        refine cw_seq (cw_region (sr rfl rfl rfl ((q_assign rfl rfl)) (sw_nil (post_then (cw_ret (post_then_r (post_ret1 rfl (resOk_tmp rfl) ?_)))))))
        refine fun w' hw => ⟨by rw [e], hw⟩
      · skip
        refine cw_skip (post_then (cw_seq (cw_seq (cw_region (sr rfl rfl rfl ((q_move rfl rfl)) (sr rfl rfl rfl ((q_move rfl rfl)) (sr rfl rfl rfl ((q_gtr rfl rfl rfl)) (sw_nil (post_then ?_)))))))))
        refine cw_cond rfl (fun h2 => ?_) (fun h2 => ?_)
        · skip
          have e : sgn (x - y) = 1 := by exact sgn_gt (by simpa using h2)
          refine cw_seq (cw_region (sr rfl rfl rfl ((q_assign rfl rfl)) (sw_nil (post_then (cw_ret (post_then_r (post_ret1 rfl (resOk_tmp rfl) ?_)))))))
          refine fun w' hw => ⟨by rw [e], hw⟩
        · skip
          have e : sgn (x - y) = 0 := by exact sgn_eq (by simpa using h) (by simpa using h2)
          refine cw_skip (post_then (cw_seq (cw_region (sr rfl rfl rfl ((q_assign rfl rfl)) (sw_nil (post_then (cw_ret (post_ret1 rfl (resOk_tmp rfl) ?_))))))))
          refine fun w' hw => ⟨by rw [e], hw⟩
theorem compareI_spec (x y : Int) (w : World) : Calls Tryz.prog 203 #[.int .i64 x, .int .i64 y] w fun e w' => e = .returned (.int .i64 (sgn (x - y))) ∧ Cl w [] [] w' := by
  refine calls_cw (vs := [_, _]) Tryz.func203 rfl Tryz.ntmps203 rfl (Cl.start0 w) (cw_seq (cw_region (sr rfl rfl rfl ((q_assign rfl rfl)) (sw_nil (post_then (cw_seq (cw_region (sr rfl rfl rfl ((q_move rfl rfl)) (sw_step rfl rfl rfl (q_call (CanCall.mk Tryz.call211) rfl (.cons rfl inferInstance (.nil)) (fun _ w hw => callq hw (isNaNI_spec _ w))) (sr rfl rfl rfl ((q_assign rfl rfl)) (sw_nil (post_then (cw_seq (cw_region (sr rfl rfl rfl ((q_move rfl rfl)) (sw_step rfl rfl rfl (q_call (CanCall.mk Tryz.call211) rfl (.cons rfl inferInstance (.nil)) (fun _ w hw => callq hw (isNaNI_spec _ w))) (sr rfl rfl rfl ((q_assign rfl rfl)) (sw_nil (post_then (cw_seq (cw_seq (cw_region (sr rfl rfl rfl ((q_move rfl rfl)) (sw_nil (post_then ?_)))))))))))))))))))))))))
  refine cw_cond rfl (fun h0 => ?_) (fun h0 => ?_)
  · skip
    exact absurd h0 (by decide)
  · skip
    refine cw_skip (post_then (cw_seq (cw_seq (cw_region (sr rfl rfl rfl ((q_move rfl rfl)) (sw_nil (post_then ?_)))))))
    refine cw_cond rfl (fun h1 => ?_) (fun h1 => ?_)
    · skip
      exact absurd h1 (by decide)
    · skip
      refine cw_skip (post_then (cw_seq (cw_seq (cw_region (sr rfl rfl rfl ((q_move rfl rfl)) (sr rfl rfl rfl ((q_move rfl rfl)) (sr rfl rfl rfl ((q_lss rfl rfl rfl)) (sw_nil (post_then ?_)))))))))
      refine cw_cond rfl (fun h => ?_) (fun h => ?_)
      · skip
        have e : sgn (x - y) = -1 := by exact sgn_lt (by simpa using h)
        refine cw_seq (cw_region (sr rfl rfl rfl ((q_assign rfl rfl)) (sw_nil (post_then (cw_ret (post_then_r (post_ret1 rfl (resOk_tmp rfl) ?_)))))))
        refine fun w' hw => ⟨by rw [e], hw⟩
      · skip
        refine cw_skip (post_then (cw_seq (cw_seq (cw_region (sr rfl rfl rfl ((q_move rfl rfl)) (sr rfl rfl rfl ((q_move rfl rfl)) (sr rfl rfl rfl ((q_gtr rfl rfl rfl)) (sw_nil (post_then ?_)))))))))
        refine cw_cond rfl (fun h2 => ?_) (fun h2 => ?_)
        · skip
          have e : sgn (x - y) = 1 := by exact sgn_gt (by simpa using h2)
          refine cw_seq (cw_region (sr rfl rfl rfl ((q_assign rfl rfl)) (sw_nil (post_then (cw_ret (post_then_r (post_ret1 rfl (resOk_tmp rfl) ?_)))))))
          refine fun w' hw => ⟨by rw [e], hw⟩
        · skip
          have e : sgn (x - y) = 0 := by exact sgn_eq (by simpa using h) (by simpa using h2)
          refine cw_skip (post_then (cw_seq (cw_region (sr rfl rfl rfl ((q_assign rfl rfl)) (sw_nil (post_then (cw_ret (post_ret1 rfl (resOk_tmp rfl) ?_))))))))
          refine fun w' hw => ⟨by rw [e], hw⟩
theorem compareS_spec (x y : ByteArray) (w : World) : Calls Tryz.prog 171 #[.string x, .string y] w fun e w' => e = .returned (.int .i64 (cmpS x y)) ∧ Cl w [] [] w' := by
  refine calls_cw (vs := [_, _]) Tryz.func171 rfl Tryz.ntmps171 rfl (Cl.start0 w) (cw_seq (cw_region (sr rfl rfl rfl ((q_assign rfl rfl)) (sw_nil (post_then (cw_seq (cw_region (sr rfl rfl rfl ((q_move rfl rfl)) (sw_step rfl rfl rfl (q_call (CanCall.mk Tryz.call193) rfl (.cons rfl inferInstance (.nil)) (fun _ w hw => callq hw (isNaNS_spec _ w))) (sr rfl rfl rfl ((q_assign rfl rfl)) (sw_nil (post_then (cw_seq (cw_region (sr rfl rfl rfl ((q_move rfl rfl)) (sw_step rfl rfl rfl (q_call (CanCall.mk Tryz.call193) rfl (.cons rfl inferInstance (.nil)) (fun _ w hw => callq hw (isNaNS_spec _ w))) (sr rfl rfl rfl ((q_assign rfl rfl)) (sw_nil (post_then (cw_seq (cw_seq (cw_region (sr rfl rfl rfl ((q_move rfl rfl)) (sw_nil (post_then ?_)))))))))))))))))))))))))
  refine cw_cond rfl (fun h0 => ?_) (fun h0 => ?_)
  · skip
    exact absurd h0 (by decide)
  · skip
    refine cw_skip (post_then (cw_seq (cw_seq (cw_region (sr rfl rfl rfl ((q_move rfl rfl)) (sw_nil (post_then ?_)))))))
    refine cw_cond rfl (fun h1 => ?_) (fun h1 => ?_)
    · skip
      exact absurd h1 (by decide)
    · skip
      refine cw_skip (post_then (cw_seq (cw_seq (cw_region (sr rfl rfl rfl ((q_move rfl rfl)) (sr rfl rfl rfl ((q_move rfl rfl)) (sr rfl rfl rfl ((q_lssStr rfl rfl rfl Tryz.underlying9)) (sw_nil (post_then ?_)))))))))
      refine cw_cond rfl (fun h => ?_) (fun h => ?_)
      · skip
        have e : cmpS x y = -1 := by exact cmpS_lt h
        refine cw_seq (cw_region (sr rfl rfl rfl ((q_assign rfl rfl)) (sw_nil (post_then (cw_ret (post_then_r (post_ret1 rfl (resOk_tmp rfl) ?_)))))))
        refine fun w' hw => ⟨by rw [e], hw⟩
      · skip
        refine cw_skip (post_then (cw_seq (cw_seq (cw_region (sr rfl rfl rfl ((q_move rfl rfl)) (sr rfl rfl rfl ((q_move rfl rfl)) (sr rfl rfl rfl ((q_gtrStr rfl rfl rfl Tryz.underlying9)) (sw_nil (post_then ?_)))))))))
        refine cw_cond rfl (fun h2 => ?_) (fun h2 => ?_)
        · skip
          have e : cmpS x y = 1 := by exact cmpS_gt2 h2
          refine cw_seq (cw_region (sr rfl rfl rfl ((q_assign rfl rfl)) (sw_nil (post_then (cw_ret (post_then_r (post_ret1 rfl (resOk_tmp rfl) ?_)))))))
          refine fun w' hw => ⟨by rw [e], hw⟩
        · skip
          have e : cmpS x y = 0 := by exact cmpS_no2 h h2
          refine cw_skip (post_then (cw_seq (cw_region (sr rfl rfl rfl ((q_assign rfl rfl)) (sw_nil (post_then (cw_ret (post_ret1 rfl (resOk_tmp rfl) ?_))))))))
          refine fun w' hw => ⟨by rw [e], hw⟩
end Go.Proofs.YtkmbliojafefdaaGreatDoor

/- Two effects that may come in either order; a cut of a slice by its length alone. -/
set_option autoImplicit false
namespace Go.Sx
open Go
variable {P : Program} {ops : Array Oper} {C : World → Prop} {n : Fr} {E : Env} {Q : Exit → Act → World → Prop} {cs : List Bool} {o : Oper}
/-- Operation i is the one that comes now. -/
def AWat (P : Program) (ops : Array Oper) (Q : Exit → Act → World → Prop) (S : World → Prop) (m : List Nat) (f : Nat) (listed : Array Bool) (i : Nat) (n : Fr) (E : Env) (C : World → Prop) : Prop :=
  ∀ a w, Sat n E a → C w → wpOp P ops Q i (fun a' w' => (m.contains i = false → S w → S w') ∧ AnyS P ops Q S m f (listed.setIfInBounds i true) a' w') a w
theorem aw_two {S : World → Prop} {m : List Nat} {f : Nat} {listed : Array Bool} (i j : Nat) (hr : Region.ready .any ops listed = [i, j]) (h1 : AWat P ops Q S m f listed i n E C) (h2 : AWat P ops Q S m f listed j n E C) : AW P ops Q S m (f + 1) listed n E C := by
  intro a w ha hw
  refine ⟨fun h0 => (by rw [hr] at h0; cases h0), fun k hk => ?_⟩
  rw [hr] at hk
  simp only [List.mem_cons, List.not_mem_nil, or_false] at hk
  rcases hk with rfl | rfl
  · exact h1 a w ha hw
  · exact h2 a w ha hw
theorem at_one {S : World → Prop} {m : List Nat} {f : Nat} {listed : Array Bool} (i : Nat) {o : Oper} {d : Nat} {R : Value → World → Prop} (hi : ops[i]? = some o) (hg : o.guard = none) (hd : o.dst = some d) (hn : Nat.ble (d + 1) n.sz = true)
    (hop : OpE P n E C o R) (hS : m.contains i = false → ∀ v w, R v w → S w) (h : ∀ v, AW P ops Q S m f (listed.setIfInBounds i true) n ((d, [], v) :: E) (R v)) : AWat P ops Q S m f listed i n E C := by
  intro a w ha hw
  unfold wpOp
  simp only [hi]
  rw [if_pos (by simp [Region.wanted, hg])]
  refine .inl ((hop a w ha hw).wp fun v w' hR => ⟨fun him _ => hS him v w' hR, ?_⟩)
  have := h v _ w' (ha.put (cs := []) (v := v) (Nat.le_of_ble_eq_true hn)) hR
  rw [hd]; exact this
theorem at_x {S : World → Prop} {m : List Nat} {f : Nat} {listed : Array Bool} {α : Type} {vf : α → Value} {C' : α → World → Prop} (i : Nat) {o : Oper} {d : Nat} (hi : ops[i]? = some o) (hg : o.guard = none) (hd : o.dst = some d) (hn : Nat.ble (d + 1) n.sz = true)
    (hop : OpE P n E C o (fun v w' => ∃ x, v = vf x ∧ C' x w')) (hS : m.contains i = false → ∀ x w, C' x w → S w) (h : ∀ x, AW P ops Q S m f (listed.setIfInBounds i true) n ((d, [], vf x) :: E) (C' x)) : AWat P ops Q S m f listed i n E C :=
  at_one i hi hg hd hn hop (fun hb v w ⟨x, _, hx⟩ => hS hb x w hx) fun _ => aw_ex fun x => aw_imp fun hv => by subst hv; exact h x
theorem q_slicePH {t e : TypeId} {sz : Nat} {x z : Operand} {cx cz : List Bool} {s : SlV} {m : Nat} {b : Int} (ho : o.op = .slice t x none (some z) none) (hx : evl E x = some (cx, s.v)) (hz : evl E z = some (cz, .int .i64 b))
    [sx : Sub cx cs] [sz' : Sub cz cs] [ht : SlT P t e] [hs : SzT P e sz] (hl : s.len = m ∧ s.len ≤ s.cap ∧ s.cap ≤ maxLen) (h : AllT cs → 0 ≤ b ∧ b ≤ m) : OpR P n E C cs o (s.sub sz 0 b.toNat).v :=
  .of_run fun e he hc w hw => by
    obtain ⟨h1, h3⟩ := h hc
    obtain ⟨l1, l2, l3⟩ := hl
    unfold execOp; simp only [ho]
    have e1 := he.eval hx sx hc
    have e3 := he.eval hz sz' hc
    have := run_slice_of (P := P) (t := t) (s := s) (w := w) (a := 0) (b := b.toNat) (lo := none) (hi := some (.int .i64 b)) (by
      have f1 := run_sliceBound (P := P) (w := w) .i64 b s.cap .sliceAcap (by omega) (by omega)
      simp [Instr.sliceBounds, f1, Result.andThen])
    simp [e1, e3, this, Result.andThen]
end Go.Sx

/-
  Rows of laws for the layer of symbolic frames: what was handed in reads the same behind a call that left memory alone, whatever its shape; slices of integers laid open as lists. General lemmas, no program text.
-/
set_option autoImplicit false
namespace Go.Sx
open Go.ChangeShapes Go.WideShapes Go.ChangeAt Go.RowKit Go.WideElems
theorem trodAll_keep {H : Type} {enc : TypeId × Value → H} {P : Program} (hl : laidOutB P = true) {W W' : World} (hb : Below W.heap.size W W') (sp : Nat → Bool) :
    ∀ {ts : List TypeId} {vs : List Value} {ds : List (DataW H)} {ps : List MemPlace}, (∀ t ∈ ts, P.readableRec t = true ∧ t < P.types.size) → DataW.TrodAll enc P W 0 (fun _ => true) true ts vs ds ps →
      (∀ x ∈ ps, x.block < W.heap.size) → (∀ x ∈ ps, sp x.block = true) → DataW.TrodAll enc P W' 0 sp true ts vs ds ps
  | [], [], [], _, _, h, _, _ => h
  | t :: ts, v :: vs, d :: ds, ps, ht, ⟨p, q, ⟨n, h1⟩, h2, e⟩, hlt, hsp => by
    have ht0 := ht t (by simp)
    have hp : ∀ x ∈ p, x.block < W.heap.size := fun x hx => hlt x (by rw [e]; simp [hx])
    have hq : ∀ x ∈ q, x.block < W.heap.size := fun x hx => hlt x (by rw [e]; simp [hx])
    exact ⟨p, q, ⟨n, DataW.trod_stays (kids_book hl ht0.1) (book_sized ht0.1) (fun h => by cases h) ⟨ht0.2, book_self t⟩ h1 (fun x hx => hb.same (hp x hx)) (fun x hx => hsp x (by rw [e]; simp [hx]))⟩,
      trodAll_keep hl hb sp (fun t ht' => ht t (by simp [ht'])) h2 hq (fun x hx => hsp x (by rw [e]; simp [hx])), e⟩
theorem cell_lt {w : World} {a : Addr} {v : Value} (h : w.cell? a = some v) : a.block < w.heap.size := by
  cases hh : w.heap[a.block]? with
  | none => unfold World.cell? at h; simp [hh] at h
  | some o => exact (Array.getElem?_eq_some_iff.1 hh).1
/-- What reads as a list does so as long as old blocks stay. -/
theorem rd_stb {α : Type} [Enc α] {sv : Value} {l : List α} {w : World} (h : RdL sv l w) : Stb w [] (RdL sv l) := by
  obtain ⟨a, n, cap, h1, h2, h3, h4, h5⟩ := h
  refine ⟨fun w' k => ⟨a, n, cap, h1, h2, h3, h4, fun i x j v hx hv => ?_⟩⟩
  obtain ⟨b, hb, hc⟩ := h5 i x j v hx hv
  refine ⟨b, hb, ?_⟩
  rw [World.cell?_of_block (w := w) (k.block _ (cell_lt hc) (by simp)), hc]
theorem below_of {w w' : World} {H : List Asn} (h : Cl w [] H w') : RowKit.Below w.heap.size w w' := h.chg.below
end Go.Sx

/- Frozen knowledge; a class told from a later world on. General lemmas, no program text. -/
set_option autoImplicit false
namespace Go.Sx
/-- What some blocks of ours say, for good. -/
def frz (R : World → Prop) : Asn := ⟨fun w bs => ∀ w', (∀ b ∈ bs, w'.heap[b]? = w.heap[b]?) → R w', fun _ _ _ h hk w'' h2 => h w'' (fun b hb => (h2 b hb).trans (hk b hb))⟩
theorem frz_here {R : World → Prop} {w : World} {bs : List Nat} (h : (frz R).holds w bs) : R w := h w fun _ _ => rfl
variable {w0 : World} {fp : List Nat}
theorem Cl.frz {H F : List Asn} {R : World → Prop} {w : World} (h : Cl w0 fp (H ++ F) w) (hR : ∀ w bs, Sep H w bs → R w) : Cl w0 fp (Sx.frz R :: F) w := by
  obtain ⟨hc, bs, hs, hn, hb⟩ := h
  obtain ⟨b1, b2, rfl, h1, h2⟩ := Sep.append.1 hs
  exact ⟨hc, b1 ++ b2, ⟨b1, b2, rfl, fun w' hk => hR w' b1 (h1.loc hk), h2⟩, hn, hb⟩
/-- A slice of our own, frozen. -/
theorem Cl.frzL {α : Type} [Enc α] {e : TypeId} {sv : Value} {l : List α} {F : List Asn} {w : World} (h : Cl w0 fp (ownL e sv l :: F) w) : Cl w0 fp (Sx.frz (RdL sv l) :: F) w :=
  Cl.frz (H := [ownL e sv l]) h fun w bs ⟨b1, _, _, h1, _⟩ => ownL.rd h1
theorem Cl.frz2 {R R' : World → Prop} {F : List Asn} {w : World} (h : Cl w0 fp (Sx.frz R :: Sx.frz R' :: F) w) : Cl w0 fp (Sx.frz (fun w => R w ∧ R' w) :: F) w :=
  Cl.frz (H := [Sx.frz R, Sx.frz R']) h fun w bs ⟨b1, _, _, h1, b2, _, _, h2, _⟩ => ⟨frz_here h1, frz_here h2⟩
theorem Cl.frzM {R R' : World → Prop} {F : List Asn} {w : World} (h : Cl w0 fp (Sx.frz R :: F) w) (hR : ∀ w, R w → R' w) : Cl w0 fp (Sx.frz R' :: F) w :=
  Cl.frz (H := [Sx.frz R]) h fun w bs ⟨b1, _, _, h1, _⟩ => hR _ (frz_here h1)
theorem rd_frz {H : List Asn} {R : World → Prop} {w : World} (h : Cl w0 fp H w) (hm : Sx.frz R ∈ H) : R w := by
  obtain ⟨bs, k⟩ := h.get hm
  exact frz_here k
theorem stb_frz {H : List Asn} {R : World → Prop} {w : World} (h : Cl w0 fp H w) (hm : Sx.frz R ∈ H) : Stb w [] R := by
  obtain ⟨bs, h2⟩ := h.split0.2.1 _ hm
  exact ⟨fun w' k => frz_here (h2.stb w' k)⟩
/-- A class told from w1 on, F left behind. -/
structure Reb (w0 : World) (fp : List Nat) (F : List Asn) (w1 : World) (bs : List Nat) : Prop where
  stb : ∀ {R : World → Prop}, Stb w0 fp R → Stb w1 bs R
  fr : ∀ G ∈ F, ∃ b2, Stb w1 bs fun w' => G.holds w' b2
  cl : ∀ {B : List Asn} {w' : World}, Cl w1 bs B w' → Cl w0 fp B w'
theorem Cl.left {B F : List Asn} {w : World} (h : Cl w0 fp (B ++ F) w) : Cl w0 fp B w := by
  obtain ⟨hc, bs, hs, hn, hb⟩ := h
  obtain ⟨b1, b2, rfl, h1, h2⟩ := Sep.append.1 hs
  exact ⟨hc, b1, h1, (List.nodup_append.1 hn).1, fun b h => hb b (by simp [h])⟩
theorem Reb.refl (w0 : World) (fp : List Nat) : Reb w0 fp [] w0 fp := ⟨id, fun G h => by simp at h, id⟩
theorem Reb.trans {F G : List Asn} {w1 w2 : World} {b1 b2 : List Nat} (h : Reb w0 fp F w1 b1) (h' : Reb w1 b1 G w2 b2) : Reb w0 fp F w2 b2 :=
  ⟨fun hR => h'.stb (h.stb hR), fun X hX => by obtain ⟨b3, k⟩ := h.fr X hX; exact ⟨b3, h'.stb k⟩, fun hB => h.cl (h'.cl hB)⟩
theorem Reb.own {α : Type} [Enc α] {F : List Asn} {w1 : World} {bs : List Nat} (h : Reb w0 fp F w1 bs) {e : TypeId} {sv : Value} {l : List α} (hm : ownL e sv l ∈ F) : Stb w1 bs (RdL sv l) := by
  obtain ⟨b2, h2⟩ := h.fr _ hm
  exact ⟨fun w' k => ownL.rd (h2.stb w' k)⟩
theorem Reb.frz {F : List Asn} {w1 : World} {bs : List Nat} (h : Reb w0 fp F w1 bs) {R : World → Prop} (hm : Sx.frz R ∈ F) : Stb w1 bs R := by
  obtain ⟨b2, h2⟩ := h.fr _ hm
  exact ⟨fun w' k => frz_here (h2.stb w' k)⟩
theorem Reb.blk {F : List Asn} {w1 : World} {bs : List Nat} (h : Reb w0 fp F w1 bs) {b : Nat} {cells : List Value} {t : TypeId} (hm : blk b cells t ∈ F) : Stb w1 bs (BlkAt b cells t) := by
  obtain ⟨b2, h2⟩ := h.fr _ hm
  exact ⟨fun w' k => ⟨_, h2.stb w' k⟩⟩
variable {P : Program} {n : Fr} {E : Env} {C : World → Prop} {Q : Exit → Act → World → Prop}
theorem Stb.mono {w : World} {R R' : World → Prop} (h : Stb w fp R) (hR : ∀ w', R w' → R' w') : Stb w fp R' := ⟨fun w' k => hR _ (h.stb w' k)⟩
end Go.Sx

/-
  append behind guards that hold. General lemmas, no program text.
-/
set_option autoImplicit false
namespace Go.Sx
open Enc (enc val)
section
variable {P : Program} {ops : Array Oper} {n : Fr} {E : Env} {cs : List Bool} {o : Oper} {w0 : World} {fp : List Nat} {H : List Asn}
end
end Go.Sx

set_option autoImplicit false
set_option maxRecDepth 100000
namespace Go.Proofs.YtkmbliojafefdaaGreatDoor
open Go.Sx
open Enc (enc val)
def orL : List Int → Int
  | [] => 0
  | x :: l => if x = 0 then orL l else x
theorem orL_skip {l : List Int} {k : Nat} (h : ∀ j, j < k → nth l j = 0) (hk : k ≤ l.length) : orL l = orL (l.drop k) := by
  induction k with
  | zero => rfl
  | succ k ih =>
    rw [ih (fun j hj => h j (by omega)) (by omega), List.drop_eq_getElem_cons (by omega : k < l.length)]
    have := h k (by omega)
    rw [nth_get (by omega)] at this
    simp [orL, this]
theorem or_spec (sv : Value) (l : List Int) (w : World) (hs : Stb w [] (RdL sv l)) : Calls Tryz.prog 141 #[sv] w fun e w' => e = .returned (.int .i64 (orL l)) ∧ Cl w [] [] w' := by
  have hL := rd_len hs.here
  refine calls_cw (vs := [_]) Tryz.func141 rfl Tryz.ntmps141 rfl (Cl.start0 w) (cw_seq (cw_region (sr rfl rfl rfl ((q_assign rfl rfl)) (sw_nil (post_then (cw_seq (cw_region (sr rfl rfl rfl ((q_assign rfl rfl)) (sw_nil (post_then (cw_seq (cw_seq (cw_region (sr rfl rfl rfl ((q_move rfl rfl)) ?_))))))))))))))
  refine sr rfl rfl rfl ((q_len rfl (.cons rfl inferInstance (.nil)) (by exact fun w hw => Stb.cl (by assumption) hw))) ?_
  refine sr rfl rfl rfl ((q_move rfl rfl)) (sw_nil (post_then (cw_block ?_)))
  refine cw_loop (S := Nat) (fun k => [(0, [], sv), (3, [], .int .i64 0), (6, [], sv), (7, [], .int .i64 l.length), (8, [], .int .i64 k)]) (fun _ => Cl w [] []) (fun k => k ≤ l.length ∧ ∀ j, j < k → nth l j = 0) (fun k => l.length - k) 0 ⟨by omega, fun j hj => by omega⟩ (by exact .cons rfl (.cons rfl (.cons rfl (.cons rfl (.cons rfl .nil))))) (fun _ h => h) ?_
  rintro k ⟨hk, hbe⟩
  refine cw_seq (cw_region (sr rfl rfl rfl ((q_lss rfl rfl rfl)) (sw_nil (post_then (cw_seq ?_)))))
  refine cw_cond rfl (fun h => ?_) (fun h => ?_)
  · skip
    have hk' : k < l.length := by simp at h; omega
    refine cw_skip (post_then (cw_seq (cw_block (cw_seq (cw_region ?_)))))
    refine sr rfl rfl rfl ((q_indexN rfl rfl rfl (by exact fun w hw => Stb.cl (by assumption) hw) (by intro hc; omega))) ?_
    refine sr rfl rfl rfl ((q_loadEl rfl rfl rfl (by exact fun w hw => Stb.cl (by assumption) hw) (by intro hc; omega))) ?_
    refine sr rfl rfl rfl ((q_assign rfl rfl)) (sw_nil (post_then (cw_seq (cw_region (sr rfl rfl rfl ((q_move rfl rfl)) (sr rfl rfl rfl ((q_move rfl rfl)) (sr rfl rfl rfl ((q_neq rfl rfl rfl)) (sw_nil (post_then ?_)))))))))
    refine cw_cond rfl (fun h2 => ?_) (fun h2 => ?_)
    · skip
      have h3 : orL l = nth l k := by
        rw [orL_skip hbe (by omega), List.drop_eq_getElem_cons hk', ← nth_get hk']
        simp at h2
        simp [orL, h2]
      refine cw_seq (cw_region (sr rfl rfl rfl ((q_move rfl rfl)) (sr rfl rfl rfl ((q_assign rfl rfl)) (sw_nil (post_then (cw_ret (post_blk_r (post_then_r (post_then_r (post_blk_r (post_then_r (post_ret1 rfl (resOk_tmp rfl) ?_))))))))))))
      exact fun w' hw => ⟨by rw [h3]; rfl, hw⟩
    · skip
      refine cw_skip (post_blk (post_then (cw_region ?_)))
      refine sr rfl rfl rfl ((q_add rfl rfl rfl (by intro hc; omega))) ?_
      refine sr rfl rfl rfl ((q_move rfl rfl)) (sw_nil ?_)
      refine post_next (k + 1) (by exact .cons rfl (.cons rfl (.cons rfl (.cons rfl (.cons rfl .nil))))) (fun _ h => h) ⟨by omega, fun j hj => ?_⟩ (by omega)
      by_cases hjk : j = k
      · rw [hjk]; simpa using h2
      · exact hbe j (by omega)
  · skip
    have hk' : k = l.length := by simp at h; omega
    subst hk'
    have h3 : orL l = 0 := by rw [orL_skip hbe (Nat.le_refl _), List.drop_length]; rfl
    refine cw_exit (post_then_x (post_then_x (post_blk_eq (post_then (cw_seq (cw_region (sr rfl rfl rfl ((q_move rfl rfl)) (sr rfl rfl rfl ((q_assign rfl rfl)) (sw_nil (post_then (cw_ret (post_ret1 rfl (resOk_tmp rfl) ?_))))))))))))
    exact fun w' hw => ⟨by rw [h3], hw⟩
theorem ordL_stepS {a b : List ByteArray} {k : Nat} (ha : k < a.length) (hb : k < b.length) : ordL (a.drop k) (b.drop k) = if cmpS (nth a k) (nth b k) = 0 then ordL (a.drop (k + 1)) (b.drop (k + 1)) else cmpS (nth a k) (nth b k) := by
  rw [ordL_step ha hb]
  unfold cmpS
  by_cases h : nth a k = nth b k
  · simp [h]
  · simp only [if_neg h]
    split <;> simp
theorem compareL_spec (sa sb : Value) (a b : List ByteArray) (w : World) (ha : Stb w [] (RdL sa a)) (hb : Stb w [] (RdL sb b)) : Calls Tryz.prog 142 #[sa, sb] w fun e w' => e = .returned (.int .i64 (ordL a b)) ∧ Cl w [] [] w' := by
  have hLa := rd_len ha.here
  have hLb := rd_len hb.here
  refine calls_cw (vs := [_, _]) Tryz.func142 rfl Tryz.ntmps142 rfl (Cl.start0 w) (cw_seq (cw_region (sr rfl rfl rfl ((q_assign rfl rfl)) (sw_nil (post_then (cw_seq (cw_seq (cw_region (sr rfl rfl rfl ((q_move rfl rfl)) ?_)))))))))
  refine sr rfl rfl rfl ((q_len rfl (.cons rfl inferInstance (.nil)) (by exact fun w hw => Stb.cl (by assumption) hw))) ?_
  refine sr rfl rfl rfl ((q_move rfl rfl)) (sw_nil (post_then (cw_block ?_)))
  refine cw_loop (S := Nat) (fun k => [(0, [], sa), (1, [], sb), (9, [], sa), (10, [], .int .i64 a.length), (11, [], .int .i64 k)]) (fun _ => Cl w [] []) (fun k => k ≤ a.length ∧ k ≤ b.length ∧ ordL a b = ordL (a.drop k) (b.drop k)) (fun k => a.length - k) 0 ⟨Nat.zero_le _, Nat.zero_le _, rfl⟩ (by exact .cons rfl (.cons rfl (.cons rfl (.cons rfl (.cons rfl .nil))))) (fun _ h => h) ?_
  rintro k ⟨hk, hk2, hbe⟩
  refine cw_seq (cw_region (sr rfl rfl rfl ((q_lss rfl rfl rfl)) (sw_nil (post_then (cw_seq ?_)))))
  refine cw_cond rfl (fun h => ?_) (fun h => ?_)
  · skip
    have hk' : k < a.length := by simp at h; omega
    refine cw_skip (post_then (cw_seq (cw_block (cw_seq (cw_region (sr rfl rfl rfl ((q_move rfl rfl)) ?_))))))
    refine sr rfl rfl rfl ((q_indexN rfl rfl rfl (by exact fun w hw => Stb.cl (by assumption) hw) (by intro hc; omega))) ?_
    refine sr rfl rfl rfl ((q_loadEl rfl rfl rfl (by exact fun w hw => Stb.cl (by assumption) hw) (by intro hc; omega))) ?_
    refine sr rfl rfl rfl ((q_assign rfl rfl)) (sr rfl rfl rfl ((q_assign rfl rfl)) (sw_nil (post_then (cw_seq (cw_seq (cw_region (sr rfl rfl rfl ((q_move rfl rfl)) (sr rfl rfl rfl ((q_move rfl rfl)) ?_))))))))
    refine sr rfl rfl rfl ((q_len rfl (.cons rfl inferInstance (.nil)) (by exact fun w hw => Stb.cl (by assumption) hw))) ?_
    refine sr rfl rfl rfl ((q_geq rfl rfl rfl)) (sw_nil (post_then ?_))
    refine cw_cond rfl (fun h2 => ?_) (fun h2 => ?_)
    · skip
      have h4 : k = b.length := by simp at h2; omega
      have h3 : ordL a b = 1 := by rw [hbe, h4, List.drop_length, List.drop_eq_getElem_cons (by omega : b.length < a.length)]; rfl
      refine cw_seq (cw_region (sr rfl rfl rfl ((q_assign rfl rfl)) (sw_nil (post_then (cw_ret (post_then_r (post_blk_r (post_then_r (post_then_r (post_blk_r (post_then_r (post_ret1 rfl (resOk_tmp rfl) ?_))))))))))))
      exact fun w' hw => ⟨by rw [h3], hw⟩
    · skip
      have h4 : k < b.length := by simp at h2; omega
      have hst := ordL_stepS hk' h4
      refine cw_skip (post_then (cw_seq (cw_region (sr rfl rfl rfl ((q_move rfl rfl)) (sr rfl rfl rfl ((q_move rfl rfl)) ?_)))))
      refine sr rfl rfl rfl ((q_indexN rfl rfl rfl (by exact fun w hw => Stb.cl (by assumption) hw) (by intro hc; omega))) ?_
      refine sr rfl rfl rfl ((q_loadEl rfl rfl rfl (by exact fun w hw => Stb.cl (by assumption) hw) (by intro hc; omega))) ?_
      refine sr rfl rfl rfl ((q_assign rfl rfl)) (sw_nil (post_then (cw_seq (cw_region (sr rfl rfl rfl ((q_move rfl rfl)) (sr rfl rfl rfl ((q_move rfl rfl)) (sw_step rfl rfl rfl (q_call (CanCall.mk Tryz.call171) rfl (.cons rfl inferInstance (.cons rfl inferInstance (.nil))) (fun _ w hw => callq hw (compareS_spec _ _ w))) (sr rfl rfl rfl ((q_assign rfl rfl)) (sw_nil (post_then (cw_seq (cw_region (sr rfl rfl rfl ((q_move rfl rfl)) (sr rfl rfl rfl ((q_neq rfl rfl rfl)) (sw_nil (post_then ?_))))))))))))))))
      refine cw_cond rfl (fun h5 => ?_) (fun h5 => ?_)
      · skip
        have h3 : ordL a b = cmpS (nth a k) (nth b k) := by
          simp at h5
          rw [hbe, hst, if_neg h5]
        refine cw_seq (cw_region (sr rfl rfl rfl ((q_move rfl rfl)) (sr rfl rfl rfl ((q_assign rfl rfl)) (sw_nil (post_then (cw_ret (post_blk_r (post_then_r (post_then_r (post_blk_r (post_then_r (post_ret1 rfl (resOk_tmp rfl) ?_))))))))))))
        exact fun w' hw => ⟨by rw [h3], hw⟩
      · skip
        refine cw_skip (post_blk (post_then (cw_region ?_)))
        refine sr rfl rfl rfl ((q_add rfl rfl rfl (by intro hc; omega))) ?_
        refine sr rfl rfl rfl ((q_move rfl rfl)) (sw_nil ?_)
        exact post_next (k + 1) (by exact .cons rfl (.cons rfl (.cons rfl (.cons rfl (.cons rfl .nil))))) (fun _ h => h) ⟨by omega, by omega, by simp at h5; rw [hbe, hst, if_pos h5]⟩ (by omega)
  · skip
    have hk' : k = a.length := by simp at h; omega
    subst hk'
    refine cw_exit (post_then_x (post_then_x (post_blk_eq (post_then (cw_seq (cw_seq (cw_region (sr rfl rfl rfl ((q_move rfl rfl)) ?_))))))))
    refine sr rfl rfl rfl ((q_len rfl (.cons rfl inferInstance (.nil)) (by exact fun w hw => Stb.cl (by assumption) hw))) ?_
    refine sr rfl rfl rfl ((q_move rfl rfl)) ?_
    refine sr rfl rfl rfl ((q_len rfl (.cons rfl inferInstance (.nil)) (by exact fun w hw => Stb.cl (by assumption) hw))) ?_
    refine sr rfl rfl rfl ((q_lss rfl rfl rfl)) (sw_nil (post_then ?_))
    refine cw_cond rfl (fun h2 => ?_) (fun h2 => ?_)
    · skip
      have h3 : ordL a b = -1 := by
        simp at h2
        rw [hbe, List.drop_length, List.drop_eq_getElem_cons (by omega : a.length < b.length)]; rfl
      refine cw_seq (cw_region (sr rfl rfl rfl ((q_assign rfl rfl)) (sw_nil (post_then (cw_ret (post_then_r (post_ret1 rfl (resOk_tmp rfl) ?_)))))))
      exact fun w' hw => ⟨by rw [h3], hw⟩
    · skip
      have h3 : ordL a b = 0 := by
        simp at h2
        rw [hbe, List.drop_length, List.drop_eq_nil_of_le (by omega)]; rfl
      refine cw_skip (post_then (cw_seq (cw_region (sr rfl rfl rfl ((q_assign rfl rfl)) (sw_nil (post_then (cw_ret (post_ret1 rfl (resOk_tmp rfl) ?_))))))))
      exact fun w' hw => ⟨by rw [h3], hw⟩
/-- Two pairs in order. -/
def prC (a b : Pr) : Int := orL [sgn (a.c - b.c), ordL a.pl b.pl]
theorem byPair_spec (a b : Pr) (w : World) (ha : Stb w [] (RdL a.p.v a.pl)) (hb : Stb w [] (RdL b.p.v b.pl)) : Calls Tryz.prog 105 #[val a, val b] w fun e w' => e = .returned (.int .i64 (prC a b)) ∧ Cl w [] [] w' := by
  refine calls_cw (vs := [_, _]) Tryz.func105 rfl Tryz.ntmps105 rfl (Cl.start0 w) (cw_seq (cw_region ?_))
  refine sw_x rfl rfl rfl (e_box rfl rfl rfl) (fun b2 => ?_)
  refine sw_x rfl rfl rfl (e_box rfl rfl rfl) (fun b3 => ?_)
  refine sr rfl rfl rfl ((q_assign rfl rfl)) (sw_nil (post_then (cw_seq (cw_region_a (Cl w [] [blk b3 (enc b) 68, blk b2 (enc a) 68]) [] mixed_Tryz ?_))))
  refine aw_take 0 (fun w h => Cl.sel (by exact .take 0 rfl (.take 0 rfl (.nil _))) w h) rfl (by kernel_rfl) (by kernel_rfl) (by kernel_rfl) (by kernel_rfl) (by kernel_rfl) (by kernel_rfl) rfl rfl rfl (q_fieldAddr rfl rfl) ?_
  refine aw_take 1 (fun w h => Cl.sel (by exact .take 0 rfl (.take 0 rfl (.nil _))) w h) rfl (by kernel_rfl) (by kernel_rfl) (by kernel_rfl) (by kernel_rfl) (by kernel_rfl) (by kernel_rfl) rfl rfl rfl (q_loadC rfl rfl (by exact .tail _ (.head _)) rfl) ?_
  refine aw_take 2 (fun w h => Cl.sel (by exact .take 0 rfl (.take 0 rfl (.nil _))) w h) rfl (by kernel_rfl) (by kernel_rfl) (by kernel_rfl) (by kernel_rfl) (by kernel_rfl) (by kernel_rfl) rfl rfl rfl (q_fieldAddr rfl rfl) ?_
  refine aw_take 3 (fun w h => Cl.sel (by exact .take 0 rfl (.take 0 rfl (.nil _))) w h) rfl (by kernel_rfl) (by kernel_rfl) (by kernel_rfl) (by kernel_rfl) (by kernel_rfl) (by kernel_rfl) rfl rfl rfl (q_loadC rfl rfl (by exact .head _) rfl) ?_
  refine aw_take 5 (fun w h => Cl.sel (by exact .take 0 rfl (.take 0 rfl (.nil _))) w h) rfl (by kernel_rfl) (by kernel_rfl) (by kernel_rfl) (by kernel_rfl) (by kernel_rfl) (by kernel_rfl) rfl rfl rfl (q_fieldAddr rfl rfl) ?_
  refine aw_take 6 (fun w h => Cl.sel (by exact .take 0 rfl (.take 0 rfl (.nil _))) w h) rfl (by kernel_rfl) (by kernel_rfl) (by kernel_rfl) (by kernel_rfl) (by kernel_rfl) (by kernel_rfl) rfl rfl rfl (q_loadC rfl rfl (by exact .tail _ (.head _)) rfl) ?_
  refine aw_take 7 (fun w h => Cl.sel (by exact .take 0 rfl (.take 0 rfl (.nil _))) w h) rfl (by kernel_rfl) (by kernel_rfl) (by kernel_rfl) (by kernel_rfl) (by kernel_rfl) (by kernel_rfl) rfl rfl rfl (q_fieldAddr rfl rfl) ?_
  refine aw_take 8 (fun w h => Cl.sel (by exact .take 0 rfl (.take 0 rfl (.nil _))) w h) rfl (by kernel_rfl) (by kernel_rfl) (by kernel_rfl) (by kernel_rfl) (by kernel_rfl) (by kernel_rfl) rfl rfl rfl (q_loadC rfl rfl (by exact .head _) rfl) ?_
  refine aw_q 4 (by kernel_rfl) rfl rfl rfl rfl (q_call (CanCall.mk Tryz.call75) rfl (.cons rfl inferInstance (.cons rfl inferInstance (.nil))) (fun _ w hw => callq hw (compareR_spec _ _ w))) (by intro hb; exact (fun w h => Cl.sel (by exact .take 0 rfl (.take 0 rfl (.nil _))) w h)) ?_
  refine aw_q 9 (by kernel_rfl) rfl rfl rfl rfl (q_call (CanCall.mk Tryz.call142) rfl (.cons rfl inferInstance (.cons rfl inferInstance (.nil))) (fun _ w hw => callq hw (compareL_spec _ _ _ _ w (by exact stb_arg hw (by assumption)) (by exact stb_arg hw (by assumption))))) (by intro hb; exact (fun w h => Cl.sel (by exact .take 0 rfl (.take 0 rfl (.nil _))) w h)) ?_
  refine aw_x 10 (by kernel_rfl) rfl rfl rfl rfl (e_buildL (α := Int) (l := [sgn (a.c - b.c), ordL a.pl b.pl]) rfl (.cons rfl inferInstance (.cons rfl inferInstance (.nil))) rfl rfl rfl rfl) (by intro hb; exact fun _ => (fun w h => Cl.sel (by exact .take 1 rfl (.take 1 rfl (.nil _))) w h)) (fun s15 => ?_)
  refine aw_q 11 (by kernel_rfl) rfl rfl rfl rfl (q_call (CanCall.mk Tryz.call141) rfl (.cons rfl inferInstance (.nil)) (fun _ w hw => callq hw (or_spec _ _ w (by exact stb_own hw (by exact .head _))))) (by intro hb; exact (fun w h => Cl.sel (by exact .take 1 rfl (.take 1 rfl (.nil _))) w h)) ?_
  refine aw_pure 12 rfl (by kernel_rfl) (by kernel_rfl) (by kernel_rfl) (by kernel_rfl) (by kernel_rfl) rfl rfl rfl (q_assign rfl rfl) ?_
  refine aw_end (by kernel_rfl) ?_
  refine post_then (cw_ret (post_ret1 rfl (resOk_tmp rfl) ?_))
  exact fun w' hw => ⟨rfl, (fun w h => Cl.sel (by exact .nil _) w h) _ hw⟩
end Go.Proofs.YtkmbliojafefdaaGreatDoor
