/- DERIVED by program: what the tables of this seat say, as instances of the layer's classes. -/
import Derived.Test.YtekikelejncgeaaSxMap
import Derived.Test.YtekikelejncgeaaProg
set_option autoImplicit false
namespace Go.Sx
open Go.Proofs
instance : IntT Try.prog 2 .i64 := ⟨Try.underlying2⟩
instance : KeyT Try.prog 2 Int := keyT_int Try.underlying2
instance : HasTy Try.prog 2 Int := hasTy_cell Try.sizeOf2 Try.isAgg2 rfl (fun _ => rfl)
instance : IntT Try.prog 3 .i64 := ⟨Try.underlying3⟩
instance : KeyT Try.prog 3 Int := keyT_int Try.underlying3
instance : HasTy Try.prog 3 Int := hasTy_cell Try.sizeOf3 Try.isAgg3 rfl (fun _ => rfl)
instance : HasTy Try.prog 4 Bool := hasTy_cell Try.sizeOf4 Try.isAgg4 rfl (fun _ => rfl)
instance : IntT Try.prog 5 .u8 := ⟨Try.underlying5⟩
instance : IntT Try.prog 6 .u8 := ⟨Try.underlying6⟩
instance : KeyT Try.prog 9 ByteArray := keyT_string Try.underlying9
instance : HasTy Try.prog 9 ByteArray := hasTy_cell Try.sizeOf9 Try.isAgg9 rfl (fun _ => rfl)
instance : KeyT Try.prog 10 ByteArray := keyT_string Try.underlying10
instance : HasTy Try.prog 10 ByteArray := hasTy_cell Try.sizeOf10 Try.isAgg10 rfl (fun _ => rfl)
instance : KeyT Try.prog 11 ByteArray := keyT_string Try.underlying11
instance : HasTy Try.prog 11 ByteArray := hasTy_cell Try.sizeOf11 Try.isAgg11 rfl (fun _ => rfl)
instance : IntT Try.prog 12 .u64 := ⟨Try.underlying12⟩
instance : IntT Try.prog 21 .i32 := ⟨Try.underlying21⟩
instance : SlT Try.prog 22 25 := ⟨Try.underlying22⟩
instance : HasTy Try.prog 22 SlV := hasTy_cell Try.sizeOf22 Try.isAgg22 rfl (fun _ => rfl)
instance : IntT Try.prog 26 .i64 := ⟨Try.underlying26⟩
instance : KeyT Try.prog 26 Int := keyT_int Try.underlying26
instance : HasTy Try.prog 26 Int := hasTy_cell Try.sizeOf26 Try.isAgg26 rfl (fun _ => rfl)
instance : SlT Try.prog 30 4 := ⟨Try.underlying30⟩
instance : HasTy Try.prog 30 SlV := hasTy_cell Try.sizeOf30 Try.isAgg30 rfl (fun _ => rfl)
instance : SlT Try.prog 37 3 := ⟨Try.underlying37⟩
instance : HasTy Try.prog 37 SlV := hasTy_cell Try.sizeOf37 Try.isAgg37 rfl (fun _ => rfl)
instance : SlT Try.prog 39 44 := ⟨Try.underlying39⟩
instance : HasTy Try.prog 39 SlV := hasTy_cell Try.sizeOf39 Try.isAgg39 rfl (fun _ => rfl)
instance : SlT Try.prog 65 37 := ⟨Try.underlying65⟩
instance : HasTy Try.prog 65 SlV := hasTy_cell Try.sizeOf65 Try.isAgg65 rfl (fun _ => rfl)
instance : SlT Try.prog 76 81 := ⟨Try.underlying76⟩
instance : HasTy Try.prog 76 SlV := hasTy_cell Try.sizeOf76 Try.isAgg76 rfl (fun _ => rfl)
instance : IntT Try.prog 101 .u64 := ⟨Try.underlying101⟩
instance : IntT Try.prog 102 .u64 := ⟨Try.underlying102⟩
instance : MapT Try.prog 105 106 3 := ⟨Try.underlying105⟩
instance : MapT Try.prog 124 3 3 := ⟨Try.underlying124⟩
instance : IntT Try.prog 139 .i64 := ⟨Try.underlying139⟩
instance : KeyT Try.prog 139 Int := keyT_int Try.underlying139
instance : HasTy Try.prog 139 Int := hasTy_cell Try.sizeOf139 Try.isAgg139 rfl (fun _ => rfl)
instance : IntT Try.prog 146 .u32 := ⟨Try.underlying146⟩
instance : IntT Try.prog 148 .u64 := ⟨Try.underlying148⟩
instance : IntT Try.prog 163 .u8 := ⟨Try.underlying163⟩
instance : IntT Try.prog 164 .u8 := ⟨Try.underlying164⟩
instance : IntT Try.prog 167 .i32 := ⟨Try.underlying167⟩
instance : IntT Try.prog 168 .i32 := ⟨Try.underlying168⟩
instance : CellT Try.prog 1 := ⟨Try.isAgg1⟩
instance : CellT Try.prog 2 := ⟨Try.isAgg2⟩
instance : CellT Try.prog 3 := ⟨Try.isAgg3⟩
instance : CellT Try.prog 4 := ⟨Try.isAgg4⟩
instance : CellT Try.prog 5 := ⟨Try.isAgg5⟩
instance : CellT Try.prog 6 := ⟨Try.isAgg6⟩
instance : AggT Try.prog 7 := ⟨Try.isAgg7⟩
instance : AggT Try.prog 8 := ⟨Try.isAgg8⟩
instance : CellT Try.prog 9 := ⟨Try.isAgg9⟩
instance : CellT Try.prog 10 := ⟨Try.isAgg10⟩
instance : CellT Try.prog 11 := ⟨Try.isAgg11⟩
instance : CellT Try.prog 12 := ⟨Try.isAgg12⟩
instance : AggT Try.prog 13 := ⟨Try.isAgg13⟩
instance : AggT Try.prog 14 := ⟨Try.isAgg14⟩
instance : CellT Try.prog 15 := ⟨Try.isAgg15⟩
instance : CellT Try.prog 16 := ⟨Try.isAgg16⟩
instance : CellT Try.prog 17 := ⟨Try.isAgg17⟩
instance : AggT Try.prog 18 := ⟨Try.isAgg18⟩
instance : AggT Try.prog 19 := ⟨Try.isAgg19⟩
instance : CellT Try.prog 21 := ⟨Try.isAgg21⟩
instance : CellT Try.prog 22 := ⟨Try.isAgg22⟩
instance : CellT Try.prog 23 := ⟨Try.isAgg23⟩
instance : AggT Try.prog 24 := ⟨Try.isAgg24⟩
instance : AggT Try.prog 25 := ⟨Try.isAgg25⟩
instance : CellT Try.prog 26 := ⟨Try.isAgg26⟩
instance : CellT Try.prog 28 := ⟨Try.isAgg28⟩
instance : CellT Try.prog 29 := ⟨Try.isAgg29⟩
instance : CellT Try.prog 30 := ⟨Try.isAgg30⟩
instance : CellT Try.prog 32 := ⟨Try.isAgg32⟩
instance : CellT Try.prog 33 := ⟨Try.isAgg33⟩
instance : CellT Try.prog 34 := ⟨Try.isAgg34⟩
instance : CellT Try.prog 35 := ⟨Try.isAgg35⟩
instance : CellT Try.prog 36 := ⟨Try.isAgg36⟩
instance : CellT Try.prog 37 := ⟨Try.isAgg37⟩
instance : CellT Try.prog 38 := ⟨Try.isAgg38⟩
instance : CellT Try.prog 39 := ⟨Try.isAgg39⟩
instance : CellT Try.prog 41 := ⟨Try.isAgg41⟩
instance : CellT Try.prog 42 := ⟨Try.isAgg42⟩
instance : AggT Try.prog 43 := ⟨Try.isAgg43⟩
instance : AggT Try.prog 44 := ⟨Try.isAgg44⟩
instance : CellT Try.prog 45 := ⟨Try.isAgg45⟩
instance : CellT Try.prog 46 := ⟨Try.isAgg46⟩
instance : CellT Try.prog 47 := ⟨Try.isAgg47⟩
instance : CellT Try.prog 48 := ⟨Try.isAgg48⟩
instance : CellT Try.prog 49 := ⟨Try.isAgg49⟩
instance : CellT Try.prog 50 := ⟨Try.isAgg50⟩
instance : CellT Try.prog 51 := ⟨Try.isAgg51⟩
instance : CellT Try.prog 52 := ⟨Try.isAgg52⟩
instance : CellT Try.prog 53 := ⟨Try.isAgg53⟩
instance : AggT Try.prog 54 := ⟨Try.isAgg54⟩
instance : AggT Try.prog 55 := ⟨Try.isAgg55⟩
instance : CellT Try.prog 57 := ⟨Try.isAgg57⟩
instance : CellT Try.prog 58 := ⟨Try.isAgg58⟩
instance : CellT Try.prog 59 := ⟨Try.isAgg59⟩
instance : CellT Try.prog 60 := ⟨Try.isAgg60⟩
instance : CellT Try.prog 61 := ⟨Try.isAgg61⟩
instance : CellT Try.prog 62 := ⟨Try.isAgg62⟩
instance : CellT Try.prog 63 := ⟨Try.isAgg63⟩
instance : CellT Try.prog 64 := ⟨Try.isAgg64⟩
instance : CellT Try.prog 65 := ⟨Try.isAgg65⟩
instance : CellT Try.prog 67 := ⟨Try.isAgg67⟩
instance : CellT Try.prog 68 := ⟨Try.isAgg68⟩
instance : CellT Try.prog 69 := ⟨Try.isAgg69⟩
instance : CellT Try.prog 70 := ⟨Try.isAgg70⟩
instance : CellT Try.prog 72 := ⟨Try.isAgg72⟩
instance : CellT Try.prog 74 := ⟨Try.isAgg74⟩
instance : CellT Try.prog 75 := ⟨Try.isAgg75⟩
instance : CellT Try.prog 76 := ⟨Try.isAgg76⟩
instance : CellT Try.prog 78 := ⟨Try.isAgg78⟩
instance : CellT Try.prog 79 := ⟨Try.isAgg79⟩
instance : AggT Try.prog 80 := ⟨Try.isAgg80⟩
instance : AggT Try.prog 81 := ⟨Try.isAgg81⟩
instance : CellT Try.prog 82 := ⟨Try.isAgg82⟩
instance : CellT Try.prog 83 := ⟨Try.isAgg83⟩
instance : CellT Try.prog 84 := ⟨Try.isAgg84⟩
instance : CellT Try.prog 86 := ⟨Try.isAgg86⟩
instance : CellT Try.prog 88 := ⟨Try.isAgg88⟩
instance : CellT Try.prog 89 := ⟨Try.isAgg89⟩
instance : CellT Try.prog 90 := ⟨Try.isAgg90⟩
instance : CellT Try.prog 91 := ⟨Try.isAgg91⟩
instance : CellT Try.prog 92 := ⟨Try.isAgg92⟩
instance : CellT Try.prog 93 := ⟨Try.isAgg93⟩
instance : CellT Try.prog 94 := ⟨Try.isAgg94⟩
instance : CellT Try.prog 95 := ⟨Try.isAgg95⟩
instance : CellT Try.prog 96 := ⟨Try.isAgg96⟩
instance : CellT Try.prog 97 := ⟨Try.isAgg97⟩
instance : CellT Try.prog 98 := ⟨Try.isAgg98⟩
instance : CellT Try.prog 99 := ⟨Try.isAgg99⟩
instance : CellT Try.prog 100 := ⟨Try.isAgg100⟩
instance : CellT Try.prog 101 := ⟨Try.isAgg101⟩
instance : CellT Try.prog 102 := ⟨Try.isAgg102⟩
instance : CellT Try.prog 103 := ⟨Try.isAgg103⟩
instance : CellT Try.prog 104 := ⟨Try.isAgg104⟩
instance : CellT Try.prog 105 := ⟨Try.isAgg105⟩
instance : AggT Try.prog 106 := ⟨Try.isAgg106⟩
instance : AggT Try.prog 107 := ⟨Try.isAgg107⟩
instance : AggT Try.prog 108 := ⟨Try.isAgg108⟩
instance : CellT Try.prog 109 := ⟨Try.isAgg109⟩
instance : CellT Try.prog 110 := ⟨Try.isAgg110⟩
instance : CellT Try.prog 111 := ⟨Try.isAgg111⟩
instance : CellT Try.prog 112 := ⟨Try.isAgg112⟩
instance : CellT Try.prog 113 := ⟨Try.isAgg113⟩
instance : CellT Try.prog 114 := ⟨Try.isAgg114⟩
instance : CellT Try.prog 116 := ⟨Try.isAgg116⟩
instance : CellT Try.prog 117 := ⟨Try.isAgg117⟩
instance : CellT Try.prog 118 := ⟨Try.isAgg118⟩
instance : CellT Try.prog 120 := ⟨Try.isAgg120⟩
instance : CellT Try.prog 121 := ⟨Try.isAgg121⟩
instance : CellT Try.prog 122 := ⟨Try.isAgg122⟩
instance : CellT Try.prog 123 := ⟨Try.isAgg123⟩
instance : CellT Try.prog 124 := ⟨Try.isAgg124⟩
instance : CellT Try.prog 125 := ⟨Try.isAgg125⟩
instance : CellT Try.prog 126 := ⟨Try.isAgg126⟩
instance : CellT Try.prog 127 := ⟨Try.isAgg127⟩
instance : CellT Try.prog 128 := ⟨Try.isAgg128⟩
instance : CellT Try.prog 129 := ⟨Try.isAgg129⟩
instance : CellT Try.prog 130 := ⟨Try.isAgg130⟩
instance : CellT Try.prog 131 := ⟨Try.isAgg131⟩
instance : CellT Try.prog 132 := ⟨Try.isAgg132⟩
instance : CellT Try.prog 133 := ⟨Try.isAgg133⟩
instance : CellT Try.prog 134 := ⟨Try.isAgg134⟩
instance : CellT Try.prog 135 := ⟨Try.isAgg135⟩
instance : CellT Try.prog 136 := ⟨Try.isAgg136⟩
instance : CellT Try.prog 137 := ⟨Try.isAgg137⟩
instance : CellT Try.prog 138 := ⟨Try.isAgg138⟩
instance : CellT Try.prog 139 := ⟨Try.isAgg139⟩
instance : CellT Try.prog 141 := ⟨Try.isAgg141⟩
instance : CellT Try.prog 142 := ⟨Try.isAgg142⟩
instance : CellT Try.prog 143 := ⟨Try.isAgg143⟩
instance : CellT Try.prog 144 := ⟨Try.isAgg144⟩
instance : CellT Try.prog 145 := ⟨Try.isAgg145⟩
instance : CellT Try.prog 146 := ⟨Try.isAgg146⟩
instance : CellT Try.prog 147 := ⟨Try.isAgg147⟩
instance : CellT Try.prog 148 := ⟨Try.isAgg148⟩
instance : CellT Try.prog 149 := ⟨Try.isAgg149⟩
instance : CellT Try.prog 150 := ⟨Try.isAgg150⟩
instance : CellT Try.prog 151 := ⟨Try.isAgg151⟩
instance : CellT Try.prog 152 := ⟨Try.isAgg152⟩
instance : CellT Try.prog 153 := ⟨Try.isAgg153⟩
instance : CellT Try.prog 154 := ⟨Try.isAgg154⟩
instance : CellT Try.prog 156 := ⟨Try.isAgg156⟩
instance : CellT Try.prog 157 := ⟨Try.isAgg157⟩
instance : AggT Try.prog 158 := ⟨Try.isAgg158⟩
instance : AggT Try.prog 159 := ⟨Try.isAgg159⟩
instance : AggT Try.prog 160 := ⟨Try.isAgg160⟩
instance : AggT Try.prog 161 := ⟨Try.isAgg161⟩
instance : AggT Try.prog 162 := ⟨Try.isAgg162⟩
instance : CellT Try.prog 163 := ⟨Try.isAgg163⟩
instance : CellT Try.prog 164 := ⟨Try.isAgg164⟩
instance : CellT Try.prog 165 := ⟨Try.isAgg165⟩
instance : CellT Try.prog 166 := ⟨Try.isAgg166⟩
instance : CellT Try.prog 167 := ⟨Try.isAgg167⟩
instance : CellT Try.prog 168 := ⟨Try.isAgg168⟩
instance : AggT Try.prog 169 := ⟨Try.isAgg169⟩
instance : AggT Try.prog 170 := ⟨Try.isAgg170⟩
instance : SzT Try.prog 0 1 := ⟨Try.sizeOf0⟩
instance : SzT Try.prog 1 1 := ⟨Try.sizeOf1⟩
instance : SzT Try.prog 2 1 := ⟨Try.sizeOf2⟩
instance : SzT Try.prog 3 1 := ⟨Try.sizeOf3⟩
instance : SzT Try.prog 4 1 := ⟨Try.sizeOf4⟩
instance : SzT Try.prog 5 1 := ⟨Try.sizeOf5⟩
instance : SzT Try.prog 6 1 := ⟨Try.sizeOf6⟩
instance : SzT Try.prog 7 4 := ⟨Try.sizeOf7⟩
instance : SzT Try.prog 8 4 := ⟨Try.sizeOf8⟩
instance : SzT Try.prog 9 1 := ⟨Try.sizeOf9⟩
instance : SzT Try.prog 10 1 := ⟨Try.sizeOf10⟩
instance : SzT Try.prog 11 1 := ⟨Try.sizeOf11⟩
instance : SzT Try.prog 12 1 := ⟨Try.sizeOf12⟩
instance : SzT Try.prog 13 2 := ⟨Try.sizeOf13⟩
instance : SzT Try.prog 14 2 := ⟨Try.sizeOf14⟩
instance : SzT Try.prog 15 1 := ⟨Try.sizeOf15⟩
instance : SzT Try.prog 16 1 := ⟨Try.sizeOf16⟩
instance : SzT Try.prog 17 1 := ⟨Try.sizeOf17⟩
instance : SzT Try.prog 18 1 := ⟨Try.sizeOf18⟩
instance : SzT Try.prog 19 1 := ⟨Try.sizeOf19⟩
instance : SzT Try.prog 20 1 := ⟨Try.sizeOf20⟩
instance : SzT Try.prog 21 1 := ⟨Try.sizeOf21⟩
instance : SzT Try.prog 22 1 := ⟨Try.sizeOf22⟩
instance : SzT Try.prog 23 1 := ⟨Try.sizeOf23⟩
instance : SzT Try.prog 24 2 := ⟨Try.sizeOf24⟩
instance : SzT Try.prog 25 2 := ⟨Try.sizeOf25⟩
instance : SzT Try.prog 26 1 := ⟨Try.sizeOf26⟩
instance : SzT Try.prog 27 1 := ⟨Try.sizeOf27⟩
instance : SzT Try.prog 28 1 := ⟨Try.sizeOf28⟩
instance : SzT Try.prog 29 1 := ⟨Try.sizeOf29⟩
instance : SzT Try.prog 30 1 := ⟨Try.sizeOf30⟩
instance : SzT Try.prog 31 1 := ⟨Try.sizeOf31⟩
instance : SzT Try.prog 32 1 := ⟨Try.sizeOf32⟩
instance : SzT Try.prog 33 1 := ⟨Try.sizeOf33⟩
instance : SzT Try.prog 34 1 := ⟨Try.sizeOf34⟩
instance : SzT Try.prog 35 1 := ⟨Try.sizeOf35⟩
instance : SzT Try.prog 36 1 := ⟨Try.sizeOf36⟩
instance : SzT Try.prog 37 1 := ⟨Try.sizeOf37⟩
instance : SzT Try.prog 38 1 := ⟨Try.sizeOf38⟩
instance : SzT Try.prog 39 1 := ⟨Try.sizeOf39⟩
instance : SzT Try.prog 40 1 := ⟨Try.sizeOf40⟩
instance : SzT Try.prog 41 1 := ⟨Try.sizeOf41⟩
instance : SzT Try.prog 42 1 := ⟨Try.sizeOf42⟩
instance : SzT Try.prog 43 3 := ⟨Try.sizeOf43⟩
instance : SzT Try.prog 44 3 := ⟨Try.sizeOf44⟩
instance : SzT Try.prog 45 1 := ⟨Try.sizeOf45⟩
instance : SzT Try.prog 46 1 := ⟨Try.sizeOf46⟩
instance : SzT Try.prog 47 1 := ⟨Try.sizeOf47⟩
instance : SzT Try.prog 48 1 := ⟨Try.sizeOf48⟩
instance : SzT Try.prog 49 1 := ⟨Try.sizeOf49⟩
instance : SzT Try.prog 50 1 := ⟨Try.sizeOf50⟩
instance : SzT Try.prog 51 1 := ⟨Try.sizeOf51⟩
instance : SzT Try.prog 52 1 := ⟨Try.sizeOf52⟩
instance : SzT Try.prog 53 1 := ⟨Try.sizeOf53⟩
instance : SzT Try.prog 54 4 := ⟨Try.sizeOf54⟩
instance : SzT Try.prog 55 4 := ⟨Try.sizeOf55⟩
instance : SzT Try.prog 56 1 := ⟨Try.sizeOf56⟩
instance : SzT Try.prog 57 1 := ⟨Try.sizeOf57⟩
instance : SzT Try.prog 58 1 := ⟨Try.sizeOf58⟩
instance : SzT Try.prog 59 1 := ⟨Try.sizeOf59⟩
instance : SzT Try.prog 60 1 := ⟨Try.sizeOf60⟩
instance : SzT Try.prog 61 1 := ⟨Try.sizeOf61⟩
instance : SzT Try.prog 62 1 := ⟨Try.sizeOf62⟩
instance : SzT Try.prog 63 1 := ⟨Try.sizeOf63⟩
instance : SzT Try.prog 64 1 := ⟨Try.sizeOf64⟩
instance : SzT Try.prog 65 1 := ⟨Try.sizeOf65⟩
instance : SzT Try.prog 66 1 := ⟨Try.sizeOf66⟩
instance : SzT Try.prog 67 1 := ⟨Try.sizeOf67⟩
instance : SzT Try.prog 68 1 := ⟨Try.sizeOf68⟩
instance : SzT Try.prog 69 1 := ⟨Try.sizeOf69⟩
instance : SzT Try.prog 70 1 := ⟨Try.sizeOf70⟩
instance : SzT Try.prog 71 1 := ⟨Try.sizeOf71⟩
instance : SzT Try.prog 72 1 := ⟨Try.sizeOf72⟩
instance : SzT Try.prog 73 1 := ⟨Try.sizeOf73⟩
instance : SzT Try.prog 74 1 := ⟨Try.sizeOf74⟩
instance : SzT Try.prog 75 1 := ⟨Try.sizeOf75⟩
instance : SzT Try.prog 76 1 := ⟨Try.sizeOf76⟩
instance : SzT Try.prog 77 1 := ⟨Try.sizeOf77⟩
instance : SzT Try.prog 78 1 := ⟨Try.sizeOf78⟩
instance : SzT Try.prog 79 1 := ⟨Try.sizeOf79⟩
instance : SzT Try.prog 80 2 := ⟨Try.sizeOf80⟩
instance : SzT Try.prog 81 2 := ⟨Try.sizeOf81⟩
instance : SzT Try.prog 82 1 := ⟨Try.sizeOf82⟩
instance : SzT Try.prog 83 1 := ⟨Try.sizeOf83⟩
instance : SzT Try.prog 84 1 := ⟨Try.sizeOf84⟩
instance : SzT Try.prog 85 1 := ⟨Try.sizeOf85⟩
instance : SzT Try.prog 86 1 := ⟨Try.sizeOf86⟩
instance : SzT Try.prog 87 1 := ⟨Try.sizeOf87⟩
instance : SzT Try.prog 88 1 := ⟨Try.sizeOf88⟩
instance : SzT Try.prog 89 1 := ⟨Try.sizeOf89⟩
instance : SzT Try.prog 90 1 := ⟨Try.sizeOf90⟩
instance : SzT Try.prog 91 1 := ⟨Try.sizeOf91⟩
instance : SzT Try.prog 92 1 := ⟨Try.sizeOf92⟩
instance : SzT Try.prog 93 1 := ⟨Try.sizeOf93⟩
instance : SzT Try.prog 94 1 := ⟨Try.sizeOf94⟩
instance : SzT Try.prog 95 1 := ⟨Try.sizeOf95⟩
instance : SzT Try.prog 96 1 := ⟨Try.sizeOf96⟩
instance : SzT Try.prog 97 1 := ⟨Try.sizeOf97⟩
instance : SzT Try.prog 98 1 := ⟨Try.sizeOf98⟩
instance : SzT Try.prog 99 1 := ⟨Try.sizeOf99⟩
instance : SzT Try.prog 100 1 := ⟨Try.sizeOf100⟩
instance : SzT Try.prog 101 1 := ⟨Try.sizeOf101⟩
instance : SzT Try.prog 102 1 := ⟨Try.sizeOf102⟩
instance : SzT Try.prog 103 1 := ⟨Try.sizeOf103⟩
instance : SzT Try.prog 104 1 := ⟨Try.sizeOf104⟩
instance : SzT Try.prog 105 1 := ⟨Try.sizeOf105⟩
instance : SzT Try.prog 106 2 := ⟨Try.sizeOf106⟩
instance : SzT Try.prog 107 6 := ⟨Try.sizeOf107⟩
instance : SzT Try.prog 108 6 := ⟨Try.sizeOf108⟩
instance : SzT Try.prog 109 1 := ⟨Try.sizeOf109⟩
instance : SzT Try.prog 110 1 := ⟨Try.sizeOf110⟩
instance : SzT Try.prog 111 1 := ⟨Try.sizeOf111⟩
instance : SzT Try.prog 112 1 := ⟨Try.sizeOf112⟩
instance : SzT Try.prog 113 1 := ⟨Try.sizeOf113⟩
instance : SzT Try.prog 114 1 := ⟨Try.sizeOf114⟩
instance : SzT Try.prog 115 1 := ⟨Try.sizeOf115⟩
instance : SzT Try.prog 116 1 := ⟨Try.sizeOf116⟩
instance : SzT Try.prog 117 1 := ⟨Try.sizeOf117⟩
instance : SzT Try.prog 118 1 := ⟨Try.sizeOf118⟩
instance : SzT Try.prog 119 1 := ⟨Try.sizeOf119⟩
instance : SzT Try.prog 120 1 := ⟨Try.sizeOf120⟩
instance : SzT Try.prog 121 1 := ⟨Try.sizeOf121⟩
instance : SzT Try.prog 122 1 := ⟨Try.sizeOf122⟩
instance : SzT Try.prog 123 1 := ⟨Try.sizeOf123⟩
instance : SzT Try.prog 124 1 := ⟨Try.sizeOf124⟩
instance : SzT Try.prog 125 1 := ⟨Try.sizeOf125⟩
instance : SzT Try.prog 126 1 := ⟨Try.sizeOf126⟩
instance : SzT Try.prog 127 1 := ⟨Try.sizeOf127⟩
instance : SzT Try.prog 128 1 := ⟨Try.sizeOf128⟩
instance : SzT Try.prog 129 1 := ⟨Try.sizeOf129⟩
instance : SzT Try.prog 130 1 := ⟨Try.sizeOf130⟩
instance : SzT Try.prog 131 1 := ⟨Try.sizeOf131⟩
instance : SzT Try.prog 132 1 := ⟨Try.sizeOf132⟩
instance : SzT Try.prog 133 1 := ⟨Try.sizeOf133⟩
instance : SzT Try.prog 134 1 := ⟨Try.sizeOf134⟩
instance : SzT Try.prog 135 1 := ⟨Try.sizeOf135⟩
instance : SzT Try.prog 136 1 := ⟨Try.sizeOf136⟩
instance : SzT Try.prog 137 1 := ⟨Try.sizeOf137⟩
instance : SzT Try.prog 138 1 := ⟨Try.sizeOf138⟩
instance : SzT Try.prog 139 1 := ⟨Try.sizeOf139⟩
instance : SzT Try.prog 140 1 := ⟨Try.sizeOf140⟩
instance : SzT Try.prog 141 1 := ⟨Try.sizeOf141⟩
instance : SzT Try.prog 142 1 := ⟨Try.sizeOf142⟩
instance : SzT Try.prog 143 1 := ⟨Try.sizeOf143⟩
instance : SzT Try.prog 144 1 := ⟨Try.sizeOf144⟩
instance : SzT Try.prog 145 1 := ⟨Try.sizeOf145⟩
instance : SzT Try.prog 146 1 := ⟨Try.sizeOf146⟩
instance : SzT Try.prog 147 1 := ⟨Try.sizeOf147⟩
instance : SzT Try.prog 148 1 := ⟨Try.sizeOf148⟩
instance : SzT Try.prog 149 1 := ⟨Try.sizeOf149⟩
instance : SzT Try.prog 150 1 := ⟨Try.sizeOf150⟩
instance : SzT Try.prog 151 1 := ⟨Try.sizeOf151⟩
instance : SzT Try.prog 152 1 := ⟨Try.sizeOf152⟩
instance : SzT Try.prog 153 1 := ⟨Try.sizeOf153⟩
instance : SzT Try.prog 154 1 := ⟨Try.sizeOf154⟩
instance : SzT Try.prog 155 1 := ⟨Try.sizeOf155⟩
instance : SzT Try.prog 156 1 := ⟨Try.sizeOf156⟩
instance : SzT Try.prog 157 1 := ⟨Try.sizeOf157⟩
instance : SzT Try.prog 158 4 := ⟨Try.sizeOf158⟩
instance : SzT Try.prog 159 4 := ⟨Try.sizeOf159⟩
instance : SzT Try.prog 160 0 := ⟨Try.sizeOf160⟩
instance : SzT Try.prog 161 0 := ⟨Try.sizeOf161⟩
instance : SzT Try.prog 162 0 := ⟨Try.sizeOf162⟩
instance : SzT Try.prog 163 1 := ⟨Try.sizeOf163⟩
instance : SzT Try.prog 164 1 := ⟨Try.sizeOf164⟩
instance : SzT Try.prog 165 1 := ⟨Try.sizeOf165⟩
instance : SzT Try.prog 166 1 := ⟨Try.sizeOf166⟩
instance : SzT Try.prog 167 1 := ⟨Try.sizeOf167⟩
instance : SzT Try.prog 168 1 := ⟨Try.sizeOf168⟩
instance : SzT Try.prog 169 11 := ⟨Try.sizeOf169⟩
instance : SzT Try.prog 170 11 := ⟨Try.sizeOf170⟩
instance : SzT Try.prog 171 1 := ⟨Try.sizeOf171⟩
instance : InfoT Try.prog 1 1 8 [.nilFunc] := info_of (v := (.nilFunc)) (by kernel_rfl) rfl rfl
instance : ZeroV Try.prog 2 Int 0 := zeroV_of (by kernel_rfl)
instance : InfoT Try.prog 2 1 8 [.int .i64 0] := info_of (v := (.int .i64 0)) (by kernel_rfl) rfl rfl
instance : ZeroV Try.prog 3 Int 0 := zeroV_of (by kernel_rfl)
instance : InfoT Try.prog 3 1 8 [.int .i64 0] := info_of (v := (.int .i64 0)) (by kernel_rfl) rfl rfl
instance : ZeroV Try.prog 4 Bool false := zeroV_of (by kernel_rfl)
instance : InfoT Try.prog 4 1 1 [.bool false] := info_of (v := (.bool false)) (by kernel_rfl) rfl rfl
instance : InfoT Try.prog 5 1 1 [.int .u8 0] := info_of (v := (.int .u8 0)) (by kernel_rfl) rfl rfl
instance : InfoT Try.prog 6 1 1 [.int .u8 0] := info_of (v := (.int .u8 0)) (by kernel_rfl) rfl rfl
instance : InfoT Try.prog 7 4 24 [.int .i64 0, .int .i64 0, .bool false, .int .u8 0] := info_of (v := (.agg #[.int .i64 0, .int .i64 0, .bool false, .int .u8 0])) (by kernel_rfl) rfl rfl
instance : InfoT Try.prog 8 4 24 [.int .i64 0, .int .i64 0, .bool false, .int .u8 0] := info_of (v := (.agg #[.int .i64 0, .int .i64 0, .bool false, .int .u8 0])) (by kernel_rfl) rfl rfl
instance : ZeroV Try.prog 9 ByteArray ByteArray.empty := zeroV_of (by kernel_rfl)
instance : InfoT Try.prog 9 1 16 [.string ByteArray.empty] := info_of (v := (.string ByteArray.empty)) (by kernel_rfl) rfl rfl
instance : ZeroV Try.prog 10 ByteArray ByteArray.empty := zeroV_of (by kernel_rfl)
instance : InfoT Try.prog 10 1 16 [.string ByteArray.empty] := info_of (v := (.string ByteArray.empty)) (by kernel_rfl) rfl rfl
instance : ZeroV Try.prog 11 ByteArray ByteArray.empty := zeroV_of (by kernel_rfl)
instance : InfoT Try.prog 11 1 16 [.string ByteArray.empty] := info_of (v := (.string ByteArray.empty)) (by kernel_rfl) rfl rfl
instance : InfoT Try.prog 12 1 8 [.int .u64 0] := info_of (v := (.int .u64 0)) (by kernel_rfl) rfl rfl
instance : InfoT Try.prog 13 2 24 [.string ByteArray.empty, .int .u64 0] := info_of (v := (.agg #[.string ByteArray.empty, .int .u64 0])) (by kernel_rfl) rfl rfl
instance : InfoT Try.prog 14 2 24 [.string ByteArray.empty, .int .u64 0] := info_of (v := (.agg #[.string ByteArray.empty, .int .u64 0])) (by kernel_rfl) rfl rfl
instance : InfoT Try.prog 15 1 8 [.pointer none] := info_of (v := (.pointer none)) (by kernel_rfl) rfl rfl
instance : InfoT Try.prog 16 1 8 [.pointer none] := info_of (v := (.pointer none)) (by kernel_rfl) rfl rfl
instance : InfoT Try.prog 17 1 8 [.pointer none] := info_of (v := (.pointer none)) (by kernel_rfl) rfl rfl
instance : InfoT Try.prog 18 1 8 [.pointer none] := info_of (v := (.agg #[.pointer none])) (by kernel_rfl) rfl rfl
instance : InfoT Try.prog 19 1 8 [.pointer none] := info_of (v := (.agg #[.pointer none])) (by kernel_rfl) rfl rfl
instance : InfoT Try.prog 20 1 16 [.nilIface] := info_of (v := (.nilIface)) (by kernel_rfl) rfl rfl
instance : InfoT Try.prog 21 1 4 [.int .i32 0] := info_of (v := (.int .i32 0)) (by kernel_rfl) rfl rfl
instance : ZeroV Try.prog 22 SlV ⟨none, 0, 0⟩ := zeroV_of (by kernel_rfl)
instance : InfoT Try.prog 22 1 24 [.slice none 0 0] := info_of (v := (.slice none 0 0)) (by kernel_rfl) rfl rfl
instance : InfoT Try.prog 23 1 8 [.nilFunc] := info_of (v := (.nilFunc)) (by kernel_rfl) rfl rfl
instance : InfoT Try.prog 24 2 16 [.int .i64 0, .int .i64 0] := info_of (v := (.agg #[.int .i64 0, .int .i64 0])) (by kernel_rfl) rfl rfl
instance : InfoT Try.prog 25 2 16 [.int .i64 0, .int .i64 0] := info_of (v := (.agg #[.int .i64 0, .int .i64 0])) (by kernel_rfl) rfl rfl
instance : ZeroV Try.prog 26 Int 0 := zeroV_of (by kernel_rfl)
instance : InfoT Try.prog 26 1 8 [.int .i64 0] := info_of (v := (.int .i64 0)) (by kernel_rfl) rfl rfl
instance : InfoT Try.prog 28 1 8 [.nilFunc] := info_of (v := (.nilFunc)) (by kernel_rfl) rfl rfl
instance : InfoT Try.prog 29 1 8 [.nilFunc] := info_of (v := (.nilFunc)) (by kernel_rfl) rfl rfl
instance : ZeroV Try.prog 30 SlV ⟨none, 0, 0⟩ := zeroV_of (by kernel_rfl)
instance : InfoT Try.prog 30 1 24 [.slice none 0 0] := info_of (v := (.slice none 0 0)) (by kernel_rfl) rfl rfl
instance : InfoT Try.prog 32 1 8 [.nilFunc] := info_of (v := (.nilFunc)) (by kernel_rfl) rfl rfl
instance : InfoT Try.prog 33 1 8 [.nilFunc] := info_of (v := (.nilFunc)) (by kernel_rfl) rfl rfl
instance : InfoT Try.prog 34 1 8 [.nilFunc] := info_of (v := (.nilFunc)) (by kernel_rfl) rfl rfl
instance : InfoT Try.prog 35 1 8 [.nilFunc] := info_of (v := (.nilFunc)) (by kernel_rfl) rfl rfl
instance : InfoT Try.prog 36 1 8 [.nilFunc] := info_of (v := (.nilFunc)) (by kernel_rfl) rfl rfl
instance : ZeroV Try.prog 37 SlV ⟨none, 0, 0⟩ := zeroV_of (by kernel_rfl)
instance : InfoT Try.prog 37 1 24 [.slice none 0 0] := info_of (v := (.slice none 0 0)) (by kernel_rfl) rfl rfl
instance : InfoT Try.prog 38 1 8 [.nilFunc] := info_of (v := (.nilFunc)) (by kernel_rfl) rfl rfl
instance : ZeroV Try.prog 39 SlV ⟨none, 0, 0⟩ := zeroV_of (by kernel_rfl)
instance : InfoT Try.prog 39 1 24 [.slice none 0 0] := info_of (v := (.slice none 0 0)) (by kernel_rfl) rfl rfl
instance : InfoT Try.prog 41 1 8 [.nilFunc] := info_of (v := (.nilFunc)) (by kernel_rfl) rfl rfl
instance : InfoT Try.prog 42 1 8 [.nilFunc] := info_of (v := (.nilFunc)) (by kernel_rfl) rfl rfl
instance : InfoT Try.prog 43 3 24 [.int .i64 0, .int .i64 0, .int .i64 0] := info_of (v := (.agg #[.int .i64 0, .int .i64 0, .int .i64 0])) (by kernel_rfl) rfl rfl
instance : InfoT Try.prog 44 3 24 [.int .i64 0, .int .i64 0, .int .i64 0] := info_of (v := (.agg #[.int .i64 0, .int .i64 0, .int .i64 0])) (by kernel_rfl) rfl rfl
instance : InfoT Try.prog 45 1 8 [.nilFunc] := info_of (v := (.nilFunc)) (by kernel_rfl) rfl rfl
instance : InfoT Try.prog 46 1 8 [.nilFunc] := info_of (v := (.nilFunc)) (by kernel_rfl) rfl rfl
instance : InfoT Try.prog 47 1 8 [.nilFunc] := info_of (v := (.nilFunc)) (by kernel_rfl) rfl rfl
instance : InfoT Try.prog 48 1 8 [.nilFunc] := info_of (v := (.nilFunc)) (by kernel_rfl) rfl rfl
instance : InfoT Try.prog 49 1 8 [.nilFunc] := info_of (v := (.nilFunc)) (by kernel_rfl) rfl rfl
instance : InfoT Try.prog 50 1 8 [.nilFunc] := info_of (v := (.nilFunc)) (by kernel_rfl) rfl rfl
instance : InfoT Try.prog 51 1 8 [.nilFunc] := info_of (v := (.nilFunc)) (by kernel_rfl) rfl rfl
instance : InfoT Try.prog 52 1 8 [.nilFunc] := info_of (v := (.nilFunc)) (by kernel_rfl) rfl rfl
instance : InfoT Try.prog 53 1 8 [.nilFunc] := info_of (v := (.nilFunc)) (by kernel_rfl) rfl rfl
instance : InfoT Try.prog 54 4 32 [.int .i64 0, .int .i64 0, .int .i64 0, .int .i64 0] := info_of (v := (.agg #[.int .i64 0, .int .i64 0, .int .i64 0, .int .i64 0])) (by kernel_rfl) rfl rfl
instance : InfoT Try.prog 55 4 32 [.int .i64 0, .int .i64 0, .int .i64 0, .int .i64 0] := info_of (v := (.agg #[.int .i64 0, .int .i64 0, .int .i64 0, .int .i64 0])) (by kernel_rfl) rfl rfl
instance : InfoT Try.prog 57 1 8 [.nilFunc] := info_of (v := (.nilFunc)) (by kernel_rfl) rfl rfl
instance : InfoT Try.prog 58 1 8 [.nilFunc] := info_of (v := (.nilFunc)) (by kernel_rfl) rfl rfl
instance : InfoT Try.prog 59 1 8 [.nilFunc] := info_of (v := (.nilFunc)) (by kernel_rfl) rfl rfl
instance : InfoT Try.prog 60 1 8 [.nilFunc] := info_of (v := (.nilFunc)) (by kernel_rfl) rfl rfl
instance : InfoT Try.prog 61 1 8 [.nilFunc] := info_of (v := (.nilFunc)) (by kernel_rfl) rfl rfl
instance : InfoT Try.prog 62 1 8 [.nilFunc] := info_of (v := (.nilFunc)) (by kernel_rfl) rfl rfl
instance : InfoT Try.prog 63 1 8 [.nilFunc] := info_of (v := (.nilFunc)) (by kernel_rfl) rfl rfl
instance : InfoT Try.prog 64 1 8 [.nilFunc] := info_of (v := (.nilFunc)) (by kernel_rfl) rfl rfl
instance : ZeroV Try.prog 65 SlV ⟨none, 0, 0⟩ := zeroV_of (by kernel_rfl)
instance : InfoT Try.prog 65 1 24 [.slice none 0 0] := info_of (v := (.slice none 0 0)) (by kernel_rfl) rfl rfl
instance : InfoT Try.prog 67 1 8 [.nilFunc] := info_of (v := (.nilFunc)) (by kernel_rfl) rfl rfl
instance : InfoT Try.prog 68 1 8 [.nilFunc] := info_of (v := (.nilFunc)) (by kernel_rfl) rfl rfl
instance : InfoT Try.prog 69 1 8 [.nilFunc] := info_of (v := (.nilFunc)) (by kernel_rfl) rfl rfl
instance : InfoT Try.prog 70 1 8 [.nilFunc] := info_of (v := (.nilFunc)) (by kernel_rfl) rfl rfl
instance : InfoT Try.prog 72 1 8 [.nilFunc] := info_of (v := (.nilFunc)) (by kernel_rfl) rfl rfl
instance : InfoT Try.prog 74 1 8 [.nilFunc] := info_of (v := (.nilFunc)) (by kernel_rfl) rfl rfl
instance : InfoT Try.prog 75 1 8 [.nilFunc] := info_of (v := (.nilFunc)) (by kernel_rfl) rfl rfl
instance : ZeroV Try.prog 76 SlV ⟨none, 0, 0⟩ := zeroV_of (by kernel_rfl)
instance : InfoT Try.prog 76 1 24 [.slice none 0 0] := info_of (v := (.slice none 0 0)) (by kernel_rfl) rfl rfl
instance : InfoT Try.prog 78 1 8 [.nilFunc] := info_of (v := (.nilFunc)) (by kernel_rfl) rfl rfl
instance : InfoT Try.prog 79 1 8 [.nilFunc] := info_of (v := (.nilFunc)) (by kernel_rfl) rfl rfl
instance : InfoT Try.prog 80 2 16 [.int .i64 0, .int .i64 0] := info_of (v := (.agg #[.int .i64 0, .int .i64 0])) (by kernel_rfl) rfl rfl
instance : InfoT Try.prog 81 2 16 [.int .i64 0, .int .i64 0] := info_of (v := (.agg #[.int .i64 0, .int .i64 0])) (by kernel_rfl) rfl rfl
instance : InfoT Try.prog 82 1 8 [.nilFunc] := info_of (v := (.nilFunc)) (by kernel_rfl) rfl rfl
instance : InfoT Try.prog 83 1 8 [.nilFunc] := info_of (v := (.nilFunc)) (by kernel_rfl) rfl rfl
instance : InfoT Try.prog 84 1 8 [.nilFunc] := info_of (v := (.nilFunc)) (by kernel_rfl) rfl rfl
instance : InfoT Try.prog 86 1 8 [.nilFunc] := info_of (v := (.nilFunc)) (by kernel_rfl) rfl rfl
instance : InfoT Try.prog 88 1 8 [.nilFunc] := info_of (v := (.nilFunc)) (by kernel_rfl) rfl rfl
instance : InfoT Try.prog 89 1 8 [.nilFunc] := info_of (v := (.nilFunc)) (by kernel_rfl) rfl rfl
instance : InfoT Try.prog 90 1 8 [.nilFunc] := info_of (v := (.nilFunc)) (by kernel_rfl) rfl rfl
instance : InfoT Try.prog 91 1 8 [.nilFunc] := info_of (v := (.nilFunc)) (by kernel_rfl) rfl rfl
instance : InfoT Try.prog 92 1 8 [.nilFunc] := info_of (v := (.nilFunc)) (by kernel_rfl) rfl rfl
instance : InfoT Try.prog 93 1 8 [.nilFunc] := info_of (v := (.nilFunc)) (by kernel_rfl) rfl rfl
instance : InfoT Try.prog 94 1 8 [.nilFunc] := info_of (v := (.nilFunc)) (by kernel_rfl) rfl rfl
instance : InfoT Try.prog 95 1 8 [.nilFunc] := info_of (v := (.nilFunc)) (by kernel_rfl) rfl rfl
instance : InfoT Try.prog 96 1 8 [.nilFunc] := info_of (v := (.nilFunc)) (by kernel_rfl) rfl rfl
instance : InfoT Try.prog 97 1 8 [.nilFunc] := info_of (v := (.nilFunc)) (by kernel_rfl) rfl rfl
instance : InfoT Try.prog 98 1 8 [.pointer none] := info_of (v := (.pointer none)) (by kernel_rfl) rfl rfl
instance : InfoT Try.prog 99 1 8 [.nilFunc] := info_of (v := (.nilFunc)) (by kernel_rfl) rfl rfl
instance : InfoT Try.prog 100 1 8 [.nilFunc] := info_of (v := (.nilFunc)) (by kernel_rfl) rfl rfl
instance : InfoT Try.prog 101 1 8 [.int .u64 0] := info_of (v := (.int .u64 0)) (by kernel_rfl) rfl rfl
instance : InfoT Try.prog 102 1 8 [.int .u64 0] := info_of (v := (.int .u64 0)) (by kernel_rfl) rfl rfl
instance : InfoT Try.prog 103 1 8 [.nilFunc] := info_of (v := (.nilFunc)) (by kernel_rfl) rfl rfl
instance : InfoT Try.prog 104 1 8 [.nilFunc] := info_of (v := (.nilFunc)) (by kernel_rfl) rfl rfl
instance : InfoT Try.prog 105 1 8 [.map none] := info_of (v := (.map none)) (by kernel_rfl) rfl rfl
instance : InfoT Try.prog 106 2 16 [.int .i64 0, .int .i64 0] := info_of (v := (.agg #[.int .i64 0, .int .i64 0])) (by kernel_rfl) rfl rfl
instance : InfoT Try.prog 107 6 80 [.int .i64 0, .int .i64 0, .int .i64 0, .int .i64 0, .slice none 0 0, .slice none 0 0] := info_of (v := (.agg #[.int .i64 0, .int .i64 0, .int .i64 0, .int .i64 0, .slice none 0 0, .slice none 0 0])) (by kernel_rfl) rfl rfl
instance : InfoT Try.prog 108 6 80 [.int .i64 0, .int .i64 0, .int .i64 0, .int .i64 0, .slice none 0 0, .slice none 0 0] := info_of (v := (.agg #[.int .i64 0, .int .i64 0, .int .i64 0, .int .i64 0, .slice none 0 0, .slice none 0 0])) (by kernel_rfl) rfl rfl
instance : InfoT Try.prog 109 1 8 [.nilFunc] := info_of (v := (.nilFunc)) (by kernel_rfl) rfl rfl
instance : InfoT Try.prog 110 1 8 [.nilFunc] := info_of (v := (.nilFunc)) (by kernel_rfl) rfl rfl
instance : InfoT Try.prog 111 1 8 [.nilFunc] := info_of (v := (.nilFunc)) (by kernel_rfl) rfl rfl
instance : InfoT Try.prog 112 1 8 [.nilFunc] := info_of (v := (.nilFunc)) (by kernel_rfl) rfl rfl
instance : InfoT Try.prog 113 1 8 [.nilFunc] := info_of (v := (.nilFunc)) (by kernel_rfl) rfl rfl
instance : InfoT Try.prog 114 1 8 [.nilFunc] := info_of (v := (.nilFunc)) (by kernel_rfl) rfl rfl
instance : InfoT Try.prog 116 1 8 [.nilFunc] := info_of (v := (.nilFunc)) (by kernel_rfl) rfl rfl
instance : InfoT Try.prog 117 1 8 [.nilFunc] := info_of (v := (.nilFunc)) (by kernel_rfl) rfl rfl
instance : InfoT Try.prog 118 1 8 [.nilFunc] := info_of (v := (.nilFunc)) (by kernel_rfl) rfl rfl
instance : InfoT Try.prog 120 1 8 [.nilFunc] := info_of (v := (.nilFunc)) (by kernel_rfl) rfl rfl
instance : InfoT Try.prog 121 1 8 [.nilFunc] := info_of (v := (.nilFunc)) (by kernel_rfl) rfl rfl
instance : InfoT Try.prog 122 1 8 [.nilFunc] := info_of (v := (.nilFunc)) (by kernel_rfl) rfl rfl
instance : InfoT Try.prog 123 1 8 [.nilFunc] := info_of (v := (.nilFunc)) (by kernel_rfl) rfl rfl
instance : InfoT Try.prog 124 1 8 [.map none] := info_of (v := (.map none)) (by kernel_rfl) rfl rfl
instance : InfoT Try.prog 125 1 8 [.nilFunc] := info_of (v := (.nilFunc)) (by kernel_rfl) rfl rfl
instance : InfoT Try.prog 126 1 8 [.nilFunc] := info_of (v := (.nilFunc)) (by kernel_rfl) rfl rfl
instance : InfoT Try.prog 127 1 8 [.nilFunc] := info_of (v := (.nilFunc)) (by kernel_rfl) rfl rfl
instance : InfoT Try.prog 128 1 8 [.nilFunc] := info_of (v := (.nilFunc)) (by kernel_rfl) rfl rfl
instance : InfoT Try.prog 129 1 8 [.nilFunc] := info_of (v := (.nilFunc)) (by kernel_rfl) rfl rfl
instance : InfoT Try.prog 130 1 8 [.nilFunc] := info_of (v := (.nilFunc)) (by kernel_rfl) rfl rfl
instance : InfoT Try.prog 131 1 8 [.nilFunc] := info_of (v := (.nilFunc)) (by kernel_rfl) rfl rfl
instance : InfoT Try.prog 132 1 8 [.nilFunc] := info_of (v := (.nilFunc)) (by kernel_rfl) rfl rfl
instance : InfoT Try.prog 133 1 8 [.nilFunc] := info_of (v := (.nilFunc)) (by kernel_rfl) rfl rfl
instance : InfoT Try.prog 134 1 8 [.nilFunc] := info_of (v := (.nilFunc)) (by kernel_rfl) rfl rfl
instance : InfoT Try.prog 135 1 8 [.nilFunc] := info_of (v := (.nilFunc)) (by kernel_rfl) rfl rfl
instance : InfoT Try.prog 136 1 8 [.nilFunc] := info_of (v := (.nilFunc)) (by kernel_rfl) rfl rfl
instance : InfoT Try.prog 137 1 8 [.nilFunc] := info_of (v := (.nilFunc)) (by kernel_rfl) rfl rfl
instance : InfoT Try.prog 138 1 8 [.nilFunc] := info_of (v := (.nilFunc)) (by kernel_rfl) rfl rfl
instance : ZeroV Try.prog 139 Int 0 := zeroV_of (by kernel_rfl)
instance : InfoT Try.prog 139 1 8 [.int .i64 0] := info_of (v := (.int .i64 0)) (by kernel_rfl) rfl rfl
instance : InfoT Try.prog 141 1 8 [.nilFunc] := info_of (v := (.nilFunc)) (by kernel_rfl) rfl rfl
instance : InfoT Try.prog 142 1 8 [.nilFunc] := info_of (v := (.nilFunc)) (by kernel_rfl) rfl rfl
instance : InfoT Try.prog 143 1 8 [.nilFunc] := info_of (v := (.nilFunc)) (by kernel_rfl) rfl rfl
instance : InfoT Try.prog 144 1 8 [.nilFunc] := info_of (v := (.nilFunc)) (by kernel_rfl) rfl rfl
instance : InfoT Try.prog 145 1 8 [.nilFunc] := info_of (v := (.nilFunc)) (by kernel_rfl) rfl rfl
instance : InfoT Try.prog 146 1 4 [.int .u32 0] := info_of (v := (.int .u32 0)) (by kernel_rfl) rfl rfl
instance : InfoT Try.prog 147 1 8 [.nilFunc] := info_of (v := (.nilFunc)) (by kernel_rfl) rfl rfl
instance : InfoT Try.prog 148 1 8 [.int .u64 0] := info_of (v := (.int .u64 0)) (by kernel_rfl) rfl rfl
instance : InfoT Try.prog 149 1 8 [.nilFunc] := info_of (v := (.nilFunc)) (by kernel_rfl) rfl rfl
instance : InfoT Try.prog 150 1 8 [.nilFunc] := info_of (v := (.nilFunc)) (by kernel_rfl) rfl rfl
instance : InfoT Try.prog 151 1 8 [.nilFunc] := info_of (v := (.nilFunc)) (by kernel_rfl) rfl rfl
instance : InfoT Try.prog 152 1 8 [.pointer none] := info_of (v := (.pointer none)) (by kernel_rfl) rfl rfl
instance : InfoT Try.prog 153 1 8 [.nilFunc] := info_of (v := (.nilFunc)) (by kernel_rfl) rfl rfl
instance : InfoT Try.prog 154 1 8 [.pointer none] := info_of (v := (.pointer none)) (by kernel_rfl) rfl rfl
instance : InfoT Try.prog 156 1 8 [.nilFunc] := info_of (v := (.nilFunc)) (by kernel_rfl) rfl rfl
instance : InfoT Try.prog 157 1 8 [.nilFunc] := info_of (v := (.nilFunc)) (by kernel_rfl) rfl rfl
instance : InfoT Try.prog 158 4 40 [.pointer none, .pointer none, .pointer none, .string ByteArray.empty] := info_of (v := (.agg #[.pointer none, .pointer none, .pointer none, .string ByteArray.empty])) (by kernel_rfl) rfl rfl
instance : InfoT Try.prog 159 4 40 [.pointer none, .pointer none, .pointer none, .string ByteArray.empty] := info_of (v := (.agg #[.pointer none, .pointer none, .pointer none, .string ByteArray.empty])) (by kernel_rfl) rfl rfl
instance : InfoT Try.prog 163 1 1 [.int .u8 0] := info_of (v := (.int .u8 0)) (by kernel_rfl) rfl rfl
instance : InfoT Try.prog 164 1 1 [.int .u8 0] := info_of (v := (.int .u8 0)) (by kernel_rfl) rfl rfl
instance : InfoT Try.prog 165 1 8 [.nilFunc] := info_of (v := (.nilFunc)) (by kernel_rfl) rfl rfl
instance : InfoT Try.prog 166 1 8 [.pointer none] := info_of (v := (.pointer none)) (by kernel_rfl) rfl rfl
instance : InfoT Try.prog 167 1 4 [.int .i32 0] := info_of (v := (.int .i32 0)) (by kernel_rfl) rfl rfl
instance : InfoT Try.prog 168 1 4 [.int .i32 0] := info_of (v := (.int .i32 0)) (by kernel_rfl) rfl rfl
instance : InfoT Try.prog 169 11 48 [.int .u64 0, .int .u64 0, .int .u32 0, .int .u8 0, .int .u8 0, .int .u8 0, .int .u8 0, .nilFunc, .pointer none, .int .i32 0, .int .i32 0] := info_of (v := (.agg #[.int .u64 0, .int .u64 0, .int .u32 0, .int .u8 0, .int .u8 0, .int .u8 0, .int .u8 0, .nilFunc, .pointer none, .int .i32 0, .int .i32 0])) (by kernel_rfl) rfl rfl
instance : InfoT Try.prog 170 11 48 [.int .u64 0, .int .u64 0, .int .u32 0, .int .u8 0, .int .u8 0, .int .u8 0, .int .u8 0, .nilFunc, .pointer none, .int .i32 0, .int .i32 0] := info_of (v := (.agg #[.int .u64 0, .int .u64 0, .int .u32 0, .int .u8 0, .int .u8 0, .int .u8 0, .int .u8 0, .nilFunc, .pointer none, .int .i32 0, .int .i32 0])) (by kernel_rfl) rfl rfl
instance : InfoT Try.prog 171 1 8 [.pointer none] := info_of (v := (.pointer none)) (by kernel_rfl) rfl rfl
-- array 106
instance : StT Try.prog 7 [(0, 1), (1, 1), (2, 1), (3, 1)] [.int .i64 0, .int .i64 0, .bool false, .int .u8 0] := ⟨fun _ => by kernel_rfl⟩
instance : FldT Try.prog 7 0 0 := ⟨fun a w => by simp [go_sem]⟩
instance : FldT Try.prog 7 1 1 := ⟨fun a w => by simp [go_sem]⟩
instance : FldT Try.prog 7 2 2 := ⟨fun a w => by simp [go_sem]⟩
instance : FldT Try.prog 7 3 3 := ⟨fun a w => by simp [go_sem]⟩
instance : StT Try.prog 8 [(0, 1), (1, 1), (2, 1), (3, 1)] [.int .i64 0, .int .i64 0, .bool false, .int .u8 0] := ⟨fun _ => by kernel_rfl⟩
instance : FldT Try.prog 8 0 0 := ⟨fun a w => by simp [go_sem]⟩
instance : FldT Try.prog 8 1 1 := ⟨fun a w => by simp [go_sem]⟩
instance : FldT Try.prog 8 2 2 := ⟨fun a w => by simp [go_sem]⟩
instance : FldT Try.prog 8 3 3 := ⟨fun a w => by simp [go_sem]⟩
instance : StT Try.prog 13 [(0, 1), (1, 1)] [.string ByteArray.empty, .int .u64 0] := ⟨fun _ => by kernel_rfl⟩
instance : FldT Try.prog 13 0 0 := ⟨fun a w => by simp [go_sem]⟩
instance : FldT Try.prog 13 1 1 := ⟨fun a w => by simp [go_sem]⟩
instance : StT Try.prog 14 [(0, 1), (1, 1)] [.string ByteArray.empty, .int .u64 0] := ⟨fun _ => by kernel_rfl⟩
instance : FldT Try.prog 14 0 0 := ⟨fun a w => by simp [go_sem]⟩
instance : FldT Try.prog 14 1 1 := ⟨fun a w => by simp [go_sem]⟩
instance : StT Try.prog 18 [(0, 1)] [.pointer none] := ⟨fun _ => by kernel_rfl⟩
instance : FldT Try.prog 18 0 0 := ⟨fun a w => by simp [go_sem]⟩
instance : StT Try.prog 19 [(0, 1)] [.pointer none] := ⟨fun _ => by kernel_rfl⟩
instance : FldT Try.prog 19 0 0 := ⟨fun a w => by simp [go_sem]⟩
instance : StT Try.prog 24 [(0, 1), (1, 1)] [.int .i64 0, .int .i64 0] := ⟨fun _ => by kernel_rfl⟩
instance : FldT Try.prog 24 0 0 := ⟨fun a w => by simp [go_sem]⟩
instance : FldT Try.prog 24 1 1 := ⟨fun a w => by simp [go_sem]⟩
instance : StT Try.prog 25 [(0, 1), (1, 1)] [.int .i64 0, .int .i64 0] := ⟨fun _ => by kernel_rfl⟩
instance : FldT Try.prog 25 0 0 := ⟨fun a w => by simp [go_sem]⟩
instance : FldT Try.prog 25 1 1 := ⟨fun a w => by simp [go_sem]⟩
instance : StT Try.prog 43 [(0, 1), (1, 1), (2, 1)] [.int .i64 0, .int .i64 0, .int .i64 0] := ⟨fun _ => by kernel_rfl⟩
instance : FldT Try.prog 43 0 0 := ⟨fun a w => by simp [go_sem]⟩
instance : FldT Try.prog 43 1 1 := ⟨fun a w => by simp [go_sem]⟩
instance : FldT Try.prog 43 2 2 := ⟨fun a w => by simp [go_sem]⟩
instance : StT Try.prog 44 [(0, 1), (1, 1), (2, 1)] [.int .i64 0, .int .i64 0, .int .i64 0] := ⟨fun _ => by kernel_rfl⟩
instance : FldT Try.prog 44 0 0 := ⟨fun a w => by simp [go_sem]⟩
instance : FldT Try.prog 44 1 1 := ⟨fun a w => by simp [go_sem]⟩
instance : FldT Try.prog 44 2 2 := ⟨fun a w => by simp [go_sem]⟩
instance : StT Try.prog 54 [(0, 1), (1, 1), (2, 1), (3, 1)] [.int .i64 0, .int .i64 0, .int .i64 0, .int .i64 0] := ⟨fun _ => by kernel_rfl⟩
instance : FldT Try.prog 54 0 0 := ⟨fun a w => by simp [go_sem]⟩
instance : FldT Try.prog 54 1 1 := ⟨fun a w => by simp [go_sem]⟩
instance : FldT Try.prog 54 2 2 := ⟨fun a w => by simp [go_sem]⟩
instance : FldT Try.prog 54 3 3 := ⟨fun a w => by simp [go_sem]⟩
instance : StT Try.prog 55 [(0, 1), (1, 1), (2, 1), (3, 1)] [.int .i64 0, .int .i64 0, .int .i64 0, .int .i64 0] := ⟨fun _ => by kernel_rfl⟩
instance : FldT Try.prog 55 0 0 := ⟨fun a w => by simp [go_sem]⟩
instance : FldT Try.prog 55 1 1 := ⟨fun a w => by simp [go_sem]⟩
instance : FldT Try.prog 55 2 2 := ⟨fun a w => by simp [go_sem]⟩
instance : FldT Try.prog 55 3 3 := ⟨fun a w => by simp [go_sem]⟩
instance : StT Try.prog 80 [(0, 1), (1, 1)] [.int .i64 0, .int .i64 0] := ⟨fun _ => by kernel_rfl⟩
instance : FldT Try.prog 80 0 0 := ⟨fun a w => by simp [go_sem]⟩
instance : FldT Try.prog 80 1 1 := ⟨fun a w => by simp [go_sem]⟩
instance : StT Try.prog 81 [(0, 1), (1, 1)] [.int .i64 0, .int .i64 0] := ⟨fun _ => by kernel_rfl⟩
instance : FldT Try.prog 81 0 0 := ⟨fun a w => by simp [go_sem]⟩
instance : FldT Try.prog 81 1 1 := ⟨fun a w => by simp [go_sem]⟩
instance : StT Try.prog 107 [(0, 4), (4, 1), (5, 1)] [.int .i64 0, .int .i64 0, .int .i64 0, .int .i64 0, .slice none 0 0, .slice none 0 0] := ⟨fun _ => by kernel_rfl⟩
instance : FldT Try.prog 107 0 0 := ⟨fun a w => by simp [go_sem]⟩
instance : FldT Try.prog 107 1 4 := ⟨fun a w => by simp [go_sem]⟩
instance : FldT Try.prog 107 2 5 := ⟨fun a w => by simp [go_sem]⟩
instance : StT Try.prog 108 [(0, 4), (4, 1), (5, 1)] [.int .i64 0, .int .i64 0, .int .i64 0, .int .i64 0, .slice none 0 0, .slice none 0 0] := ⟨fun _ => by kernel_rfl⟩
instance : FldT Try.prog 108 0 0 := ⟨fun a w => by simp [go_sem]⟩
instance : FldT Try.prog 108 1 4 := ⟨fun a w => by simp [go_sem]⟩
instance : FldT Try.prog 108 2 5 := ⟨fun a w => by simp [go_sem]⟩
instance : StT Try.prog 158 [(0, 1), (1, 1), (2, 1), (3, 1)] [.pointer none, .pointer none, .pointer none, .string ByteArray.empty] := ⟨fun _ => by kernel_rfl⟩
instance : FldT Try.prog 158 0 0 := ⟨fun a w => by simp [go_sem]⟩
instance : FldT Try.prog 158 1 1 := ⟨fun a w => by simp [go_sem]⟩
instance : FldT Try.prog 158 2 2 := ⟨fun a w => by simp [go_sem]⟩
instance : FldT Try.prog 158 3 3 := ⟨fun a w => by simp [go_sem]⟩
instance : StT Try.prog 159 [(0, 1), (1, 1), (2, 1), (3, 1)] [.pointer none, .pointer none, .pointer none, .string ByteArray.empty] := ⟨fun _ => by kernel_rfl⟩
instance : FldT Try.prog 159 0 0 := ⟨fun a w => by simp [go_sem]⟩
instance : FldT Try.prog 159 1 1 := ⟨fun a w => by simp [go_sem]⟩
instance : FldT Try.prog 159 2 2 := ⟨fun a w => by simp [go_sem]⟩
instance : FldT Try.prog 159 3 3 := ⟨fun a w => by simp [go_sem]⟩
instance : StT Try.prog 169 [(0, 1), (1, 1), (2, 1), (3, 1), (4, 1), (5, 1), (6, 1), (7, 1), (8, 1), (9, 1), (10, 1)] [.int .u64 0, .int .u64 0, .int .u32 0, .int .u8 0, .int .u8 0, .int .u8 0, .int .u8 0, .nilFunc, .pointer none, .int .i32 0, .int .i32 0] := ⟨fun _ => by kernel_rfl⟩
instance : FldT Try.prog 169 0 0 := ⟨fun a w => by simp [go_sem]⟩
instance : FldT Try.prog 169 1 1 := ⟨fun a w => by simp [go_sem]⟩
instance : FldT Try.prog 169 2 2 := ⟨fun a w => by simp [go_sem]⟩
instance : FldT Try.prog 169 3 3 := ⟨fun a w => by simp [go_sem]⟩
instance : FldT Try.prog 169 4 4 := ⟨fun a w => by simp [go_sem]⟩
instance : FldT Try.prog 169 5 5 := ⟨fun a w => by simp [go_sem]⟩
instance : FldT Try.prog 169 6 6 := ⟨fun a w => by simp [go_sem]⟩
instance : FldT Try.prog 169 7 7 := ⟨fun a w => by simp [go_sem]⟩
instance : FldT Try.prog 169 8 8 := ⟨fun a w => by simp [go_sem]⟩
instance : FldT Try.prog 169 9 9 := ⟨fun a w => by simp [go_sem]⟩
instance : FldT Try.prog 169 10 10 := ⟨fun a w => by simp [go_sem]⟩
instance : StT Try.prog 170 [(0, 1), (1, 1), (2, 1), (3, 1), (4, 1), (5, 1), (6, 1), (7, 1), (8, 1), (9, 1), (10, 1)] [.int .u64 0, .int .u64 0, .int .u32 0, .int .u8 0, .int .u8 0, .int .u8 0, .int .u8 0, .nilFunc, .pointer none, .int .i32 0, .int .i32 0] := ⟨fun _ => by kernel_rfl⟩
instance : FldT Try.prog 170 0 0 := ⟨fun a w => by simp [go_sem]⟩
instance : FldT Try.prog 170 1 1 := ⟨fun a w => by simp [go_sem]⟩
instance : FldT Try.prog 170 2 2 := ⟨fun a w => by simp [go_sem]⟩
instance : FldT Try.prog 170 3 3 := ⟨fun a w => by simp [go_sem]⟩
instance : FldT Try.prog 170 4 4 := ⟨fun a w => by simp [go_sem]⟩
instance : FldT Try.prog 170 5 5 := ⟨fun a w => by simp [go_sem]⟩
instance : FldT Try.prog 170 6 6 := ⟨fun a w => by simp [go_sem]⟩
instance : FldT Try.prog 170 7 7 := ⟨fun a w => by simp [go_sem]⟩
instance : FldT Try.prog 170 8 8 := ⟨fun a w => by simp [go_sem]⟩
instance : FldT Try.prog 170 9 9 := ⟨fun a w => by simp [go_sem]⟩
instance : FldT Try.prog 170 10 10 := ⟨fun a w => by simp [go_sem]⟩
theorem mixed_Try : Try.prog.follows .mixedOrders = true := by kernel_rfl
end Go.Sx
