/-
  Part 14: lemmas, each with its own conditions.
-/
import Derived.KernelRfl
import Derived.Test.YthaolifcglpkdaaGreatDoorProg
import Derived.Test.YthaolifcglpkdaaGreatDoorA13
set_option maxRecDepth 100000
set_option maxHeartbeats 0
set_option linter.all false
namespace Go.Ago
open Go.Proofs
def ti1:TI:=⟨1,8,false,[.nilf],.func,false⟩
def ti3:TI:=⟨1,8,false,[.int .i64 0],.int .i64,true⟩
def ti4:TI:=⟨1,1,false,[.bool false],.bool,true⟩
def ti5:TI:=⟨1,1,false,[.int .u8 0],.int .u8,true⟩
def ti9:TI:=⟨1,16,false,[.str []],.string,true⟩
def ti20:TI:=⟨1,16,false,[.nili],.iface,false⟩
def ti21:TI:=⟨1,4,false,[.int .i32 0],.int .i32,true⟩
def ti22:TI:=⟨1,24,false,[.nils],.slice 120,false⟩
def ti23:TI:=⟨1,24,false,[.nils],.slice 203,false⟩
def ti24:TI:=⟨1,24,false,[.nils],.slice 122,false⟩
def ti25:TI:=⟨1,24,false,[.nils],.slice 9,false⟩
def ti26:TI:=⟨1,24,false,[.nils],.slice 3,false⟩
def ti28:TI:=⟨6,128,true,[.nils,.int .i64 0,.nils,.nils,.nils,.nils],.struct [(0,1,22),(1,1,3),(2,1,23),(3,1,24),(4,1,25),(5,1,26)],false⟩
def ti29:TI:=⟨1,24,false,[.nils],.slice 44,false⟩
def ti31:TI:=⟨7,152,true,[.nils,.int .i64 0,.nils,.nils,.nils,.nils,.nils],.struct [(0,6,28),(6,1,29)],false⟩
def ti32:TI:=⟨1,8,false,[.nilf],.func,false⟩
def ti34:TI:=⟨1,8,false,[.int .i64 0],.int .i64,true⟩
def ti39:TI:=⟨1,24,false,[.nils],.slice 26,false⟩
def ti42:TI:=⟨1,24,false,[.nils],.slice 62,false⟩
def ti44:TI:=⟨2,32,true,[.int .i64 0,.nils],.struct [(0,1,3),(1,1,42)],false⟩
def ti46:TI:=⟨1,24,true,[.nils],.struct [(0,1,39)],false⟩
def ti56:TI:=⟨5,48,true,[.int .i64 0,.int .i64 0,.int .i64 0,.bool false,.str []],.struct [(0,1,3),(1,1,3),(2,1,3),(3,1,4),(4,1,9)],true⟩
def ti58:TI:=⟨2,24,true,[.int .i64 0,.str []],.struct [(0,1,3),(1,1,9)],true⟩
def ti59:TI:=⟨1,24,false,[.nils],.slice 209,false⟩
def ti60:TI:=⟨1,24,false,[.nils],.slice 56,false⟩
def ti62:TI:=⟨29,304,true,[.int .i64 0,.int .i64 0,.int .i64 0,.int .i64 0,.int .i64 0,.int .i64 0,.int .i64 0,.bool false,.str [],.int .i64 0,.int .i64 0,.int .i64 0,.bool false,.str [],.int .i64 0,.int .i64 0,.int .i64 0,.bool false,.str [],.int .i64 0,.int .i64 0,.int .i64 0,.int .i64 0,.str [],.nils,.nils,.nils,.bool false,.bool false],.struct [(0,1,3),(1,1,3),(2,1,3),(3,1,3),(4,5,56),(9,5,56),(14,5,56),(19,1,3),(20,1,3),(21,1,3),(22,2,58),(24,1,59),(25,1,26),(26,1,60),(27,1,4),(28,1,4)],false⟩
def ti69:TI:=⟨1,24,false,[.nils],.slice 77,false⟩
def ti73:TI:=⟨1,24,false,[.nils],.slice 34,false⟩
def ti75:TI:=⟨1,8,false,[.nilf],.func,false⟩
def ti77:TI:=⟨2,16,true,[.int .i64 0,.int .i64 0],.array 2 3,true⟩
def ti81:TI:=⟨1,8,false,[.nilf],.func,false⟩
def ti85:TI:=⟨3,56,true,[.nils,.int .i64 0,.nils],.struct [(0,1,42),(1,1,3),(2,1,26)],false⟩
def ti88:TI:=⟨1,24,false,[.nils],.slice 91,false⟩
def ti91:TI:=⟨1,24,false,[.nils],.slice 128,false⟩
def ti93:TI:=⟨1,8,false,[.nilf],.func,false⟩
def ymz:TI:=⟨8,160,true,[.nils,.int .i64 0,.nils,.nils,.nils,.nils,.nils,.int .i64 0],.struct [(0,7,31),(7,1,3)],false⟩
def ymy:TI:=⟨15,328,true,[.nils,.int .i64 0,.nils,.nils,.nils,.nils,.nils,.nils,.int .i64 0,.nils,.nils,.nils,.nils,.nils,.nils],.struct [(0,7,31),(7,7,31),(14,1,39)],false⟩
def ymx:TI:=⟨1,8,false,[.nilm],.map 3 111,false⟩
def ymw:TI:=⟨2,32,true,[.bool false,.nils],.struct [(0,1,4),(1,1,26)],false⟩
def ymv:TI:=⟨3,40,true,[.nilm,.bool false,.nils],.struct [(0,1,109),(1,2,111)],false⟩
def ymu:TI:=⟨1,24,false,[.nils],.slice 113,false⟩
def ymt:TI:=⟨1,24,false,[.nils],.slice 181,false⟩
def yms:TI:=⟨7,112,true,[.str [],.int .i64 0,.int .i64 0,.int .i64 0,.nils,.nils,.nils],.struct [(0,1,9),(1,1,3),(2,1,3),(3,1,3),(4,1,23),(5,1,118),(6,1,60)],false⟩
def ymr:TI:=⟨2,24,true,[.str [],.int .i64 0],.struct [(0,1,9),(1,1,3)],true⟩
def ti128:TI:=⟨1,8,false,[.int .u64 0],.int .u64,true⟩
def ymq:TI:=⟨1,24,false,[.nils],.slice 4,false⟩
def ymp:TI:=⟨1,8,false,[.nilf],.func,false⟩
def ymo:TI:=⟨2,24,true,[.str [],.bool false],.struct [(0,1,9),(1,1,4)],true⟩
def ymn:TI:=⟨1,24,false,[.nils],.slice 146,false⟩
def ymm:TI:=⟨1,8,false,[.nilf],.func,false⟩
def yml:TI:=⟨3,24,true,[.int .i64 0,.int .i64 0,.int .i64 0],.array 3 3,true⟩
def ymk:TI:=⟨1,8,false,[.nilf],.func,false⟩
def ymj:TI:=⟨1,8,false,[.int .u64 0],.int .u64,true⟩
def ymi:TI:=⟨1,8,false,[.nilp],.ptr,false⟩
def ymh:TI:=⟨1,24,false,[.nils],.slice 227,false⟩
def ymg:TI:=⟨1,24,false,[.nils],.slice 230,false⟩
def ymf:TI:=⟨11,128,true,[.int .i64 0,.int .i64 0,.nils,.nils,.int .i64 0,.int .i64 0,.int .i64 0,.nils,.int .i64 0,.bool false,.bool false],.struct [(0,1,3),(1,1,3),(2,1,178),(3,1,179),(4,1,3),(5,1,3),(6,1,3),(7,1,59),(8,1,3),(9,1,4),(10,1,4)],false⟩
def yme:TI:=⟨39,624,true,[.str [],.str [],.str [],.str [],.str [],.str [],.str [],.str [],.str [],.str [],.str [],.str [],.str [],.str [],.str [],.str [],.str [],.str [],.str [],.str [],.str [],.str [],.str [],.str [],.str [],.str [],.str [],.str [],.str [],.str [],.str [],.str [],.str [],.str [],.str [],.str [],.str [],.str [],.str []],.array 39 9,true⟩
def ymd:TI:=⟨1,8,false,[.nilf],.func,false⟩
def ymc:TI:=⟨8,80,true,[.int .i64 0,.int .i64 0,.int .i64 0,.int .i64 0,.bool false,.str [],.int .i64 0,.str []],.struct [(0,1,3),(1,5,56),(6,2,58)],true⟩
def ymb:TI:=⟨4,40,true,[.int .i64 0,.int .i64 0,.int .i64 0,.str []],.struct [(0,1,3),(1,1,3),(2,1,3),(3,1,9)],true⟩
def yma:TI:=⟨2,16,true,[.nilm,.nilm],.array 2 109,false⟩
def yhl:TI:=⟨1,8,true,[.int .i64 0],.struct [(0,1,34)],true⟩
def yl9:TI:=⟨8,160,true,[.nils,.int .i64 0,.nils,.nils,.nils,.nils,.int .i64 0,.nils],.struct [(0,6,28),(6,1,3),(7,1,26)],false⟩
def yl8:TI:=⟨1,24,false,[.nils],.slice 275,false⟩
def yl7:TI:=⟨11,128,true,[.int .i64 0,.int .i64 0,.int .i64 0,.int .i64 0,.nils,.nils,.int .i64 0,.int .i64 0,.int .i64 0,.bool false,.str []],.struct [(0,1,3),(1,1,3),(2,1,3),(3,1,3),(4,1,179),(5,1,225),(6,5,56)],false⟩
def yl6:TI:=⟨11,136,true,[.int .i64 0,.int .i64 0,.int .i64 0,.int .i64 0,.bool false,.str [],.int .i64 0,.str [],.int .i64 0,.nils,.nils],.struct [(0,1,3),(1,5,56),(6,2,58),(8,1,3),(9,1,179),(10,1,178)],false⟩
def yl5:TI:=⟨1,8,false,[.nilp],.ptr,false⟩
def yl4:TI:=⟨6,56,true,[.str [],.bool false,.int .i64 0,.int .i64 0,.int .i64 0,.bool false],.struct [(0,1,9),(1,1,4),(2,1,3),(3,1,3),(4,1,3),(5,1,4)],true⟩
def yl3:TI:=⟨1,24,false,[.nils],.slice 325,false⟩
def yl2:TI:=⟨12,112,true,[.str [],.bool false,.int .i64 0,.int .i64 0,.int .i64 0,.bool false,.nils,.int .u8 0,.int .i64 0,.bool false,.int .u8 0,.int .i64 0],.struct [(0,6,239),(6,1,240),(7,1,5),(8,1,3),(9,1,4),(10,1,5),(11,1,3)],false⟩
def yl1:TI:=⟨1,1,false,[.int .i8 0],.int .i8,true⟩
def ti245:TI:=⟨2,2,true,[.int .i8 0,.int .i8 0],.array 2 244,true⟩
def yl0:TI:=⟨64,64,true,[.int .i8 0,.int .i8 0,.int .i8 0,.int .i8 0,.int .i8 0,.int .i8 0,.int .i8 0,.int .i8 0,.int .i8 0,.int .i8 0,.int .i8 0,.int .i8 0,.int .i8 0,.int .i8 0,.int .i8 0,.int .i8 0,.int .i8 0,.int .i8 0,.int .i8 0,.int .i8 0,.int .i8 0,.int .i8 0,.int .i8 0,.int .i8 0,.int .i8 0,.int .i8 0,.int .i8 0,.int .i8 0,.int .i8 0,.int .i8 0,.int .i8 0,.int .i8 0,.int .i8 0,.int .i8 0,.int .i8 0,.int .i8 0,.int .i8 0,.int .i8 0,.int .i8 0,.int .i8 0,.int .i8 0,.int .i8 0,.int .i8 0,.int .i8 0,.int .i8 0,.int .i8 0,.int .i8 0,.int .i8 0,.int .i8 0,.int .i8 0,.int .i8 0,.int .i8 0,.int .i8 0,.int .i8 0,.int .i8 0,.int .i8 0,.int .i8 0,.int .i8 0,.int .i8 0,.int .i8 0,.int .i8 0,.int .i8 0,.int .i8 0,.int .i8 0],.array 32 245,true⟩
def ylz:TI:=⟨1,8,false,[.int .i64 0],.int .i64,true⟩
def yly:TI:=⟨1,24,false,[.nils],.slice 5,false⟩
def ylx:TI:=⟨5,5,true,[.int .i8 0,.int .i8 0,.int .i8 0,.int .i8 0,.int .i8 0],.struct [(0,1,244),(1,1,244),(2,1,244),(3,1,244),(4,1,244)],true⟩
def ylw:TI:=⟨115,115,true,[.int .i8 0,.int .i8 0,.int .i8 0,.int .i8 0,.int .i8 0,.int .i8 0,.int .i8 0,.int .i8 0,.int .i8 0,.int .i8 0,.int .i8 0,.int .i8 0,.int .i8 0,.int .i8 0,.int .i8 0,.int .i8 0,.int .i8 0,.int .i8 0,.int .i8 0,.int .i8 0,.int .i8 0,.int .i8 0,.int .i8 0,.int .i8 0,.int .i8 0,.int .i8 0,.int .i8 0,.int .i8 0,.int .i8 0,.int .i8 0,.int .i8 0,.int .i8 0,.int .i8 0,.int .i8 0,.int .i8 0,.int .i8 0,.int .i8 0,.int .i8 0,.int .i8 0,.int .i8 0,.int .i8 0,.int .i8 0,.int .i8 0,.int .i8 0,.int .i8 0,.int .i8 0,.int .i8 0,.int .i8 0,.int .i8 0,.int .i8 0,.int .i8 0,.int .i8 0,.int .i8 0,.int .i8 0,.int .i8 0,.int .i8 0,.int .i8 0,.int .i8 0,.int .i8 0,.int .i8 0,.int .i8 0,.int .i8 0,.int .i8 0,.int .i8 0,.int .i8 0,.int .i8 0,.int .i8 0,.int .i8 0,.int .i8 0,.int .i8 0,.int .i8 0,.int .i8 0,.int .i8 0,.int .i8 0,.int .i8 0,.int .i8 0,.int .i8 0,.int .i8 0,.int .i8 0,.int .i8 0,.int .i8 0,.int .i8 0,.int .i8 0,.int .i8 0,.int .i8 0,.int .i8 0,.int .i8 0,.int .i8 0,.int .i8 0,.int .i8 0,.int .i8 0,.int .i8 0,.int .i8 0,.int .i8 0,.int .i8 0,.int .i8 0,.int .i8 0,.int .i8 0,.int .i8 0,.int .i8 0,.int .i8 0,.int .i8 0,.int .i8 0,.int .i8 0,.int .i8 0,.int .i8 0,.int .i8 0,.int .i8 0,.int .i8 0,.int .i8 0,.int .i8 0,.int .i8 0,.int .i8 0,.int .i8 0,.int .i8 0],.array 23 269,true⟩
def ylv:TI:=⟨14,160,true,[.int .i64 0,.int .i64 0,.int .i64 0,.int .i64 0,.bool false,.str [],.int .i64 0,.str [],.int .i64 0,.nils,.nils,.int .i64 0,.int .i64 0,.int .i64 0],.struct [(0,11,230),(11,1,3),(12,1,3),(13,1,3)],false⟩
def ylu:TI:=⟨1,8,false,[.nilf],.func,false⟩
def ylt:TI:=⟨19,152,true,[.int .i64 0,.int .i64 0,.int .i64 0,.int .i64 0,.int .i64 0,.int .i64 0,.int .i64 0,.int .i64 0,.int .i64 0,.int .i64 0,.int .i64 0,.int .i64 0,.int .i64 0,.int .i64 0,.int .i64 0,.int .i64 0,.int .i64 0,.int .i64 0,.int .i64 0],.array 19 3,true⟩
def yls:TI:=⟨1,8,false,[.int .u64 0],.int .u64,true⟩
def ylr:TI:=⟨1,8,false,[.nilp],.ptr,false⟩
def ylq:TI:=⟨1,8,false,[.nilf],.func,false⟩
def ylp:TI:=⟨1,8,false,[.nilp],.ptr,false⟩
def ylo:TI:=⟨1,8,false,[.int .i64 0],.int .i64,true⟩
def yln:TI:=⟨1,8,false,[.nilp],.ptr,false⟩
def ylm:TI:=⟨6,56,true,[.nilp,.str [],.bool false,.int .i64 0,.int .i64 0,.int .i64 0],.struct [(0,1,235),(1,1,9),(2,1,4),(3,1,3),(4,1,3),(5,1,3)],false⟩
def yll:TI:=⟨1,8,false,[.nilf],.func,false⟩
def ylk:TI:=⟨6,48,true,[.nilf,.nilf,.nilf,.nilf,.nilf,.nilf],.array 6 334,false⟩
def ylj:TI:=⟨20,20,true,[.int .u8 0,.int .u8 0,.int .u8 0,.int .u8 0,.int .u8 0,.int .u8 0,.int .u8 0,.int .u8 0,.int .u8 0,.int .u8 0,.int .u8 0,.int .u8 0,.int .u8 0,.int .u8 0,.int .u8 0,.int .u8 0,.int .u8 0,.int .u8 0,.int .u8 0,.int .u8 0],.array 20 5,true⟩
def yli:TI:=⟨1,8,false,[.nilp],.ptr,false⟩
def ylh:TI:=⟨2,32,true,[.nilp,.nils],.struct [(0,1,358),(1,1,267)],false⟩
def ylg:TI:=⟨1,8,false,[.nilp],.ptr,false⟩
def envL:List (Nat×TI):=[(1,ti1),(3,ti3),(4,ti4),(5,ti5),(9,ti9),(20,ti20),(21,ti21),(22,ti22),(23,ti23),(24,ti24),(25,ti25),(26,ti26),(28,ti28),(29,ti29),(31,ti31),(32,ti32),(34,ti34),(39,ti39),(42,ti42),(44,ti44),(46,ti46),(56,ti56),(58,ti58),(59,ti59),(60,ti60),(62,ti62),(69,ti69),(73,ti73),(75,ti75),(77,ti77),(81,ti81),(85,ti85),(88,ti88),(91,ti91),(93,ti93),(106,ymz),(108,ymy),(109,ymx),(111,ymw),(113,ymv),(114,ymu),(118,ymt),(120,yms),(122,ymr),(128,ti128),(134,ymq),(145,ymp),(146,ymo),(147,ymn),(150,ymm),(157,yml),(166,ymk),(169,ymj),(176,ymi),(178,ymh),(179,ymg),(181,ymf),(184,yme),(200,ymd),(203,ymc),(209,ymb),(213,yma),(219,yhl),(223,yl9),(225,yl8),(227,yl7),(230,yl6),(235,yl5),(239,yl4),(240,yl3),(242,yl2),(244,yl1),(245,ti245),(246,yl0),(258,ylz),(267,yly),(269,ylx),(270,ylw),(275,ylv),(277,ylu),(282,ylt),(300,yls),(304,ylr),(309,ylq),(323,ylp),(325,ylo),(329,yln),(331,ylm),(334,yll),(336,ylk),(349,ylj),(358,yli),(360,ylh),(376,ylg)]
def envT:Tr TI:=(.node (.node (.node (.node (.node (.node .nil (some ti31) (.node .nil none (.node .nil (some yl9) .nil))) none (.node .nil none (.node .nil (some ymw) (.node .nil (some yl4) .nil)))) none (.node (.node .nil (some ti39) .nil) (some ti23) .nil)) (some ti3) (.node (.node (.node (.node .nil none (.node (.node .nil (some ylp) .nil) none .nil)) none (.node .nil none (.node .nil (some yl7) .nil))) none (.node (.node (.node (.node .nil (some ylv) .nil) (some ymn) .nil) none .nil) none (.node (.node .nil (some ymg) .nil) none .nil))) none (.node (.node (.node (.node (.node .nil (some yly) .nil) none .nil) (some ti75) (.node (.node .nil (some ylm) .nil) (some ymc) .nil)) none (.node .nil none (.node .nil (some yl5) .nil))) none (.node (.node .nil (some ti91) (.node .nil (some yhl) .nil)) (some ti59) .nil)))) (some ti1) (.node (.node (.node (.node .nil none (.node .nil none (.node .nil (some yl8) .nil))) none (.node (.node (.node .nil (some ymp) .nil) (some ti81) (.node .nil (some ymb) .nil)) none (.node .nil (some ymv) .nil))) (some ti9) (.node (.node (.node .nil (some ti73) (.node (.node .nil (some yln) .nil) none .nil)) none (.node (.node .nil (some ymj) .nil) none .nil)) (some ti25) .nil)) (some ti5) (.node (.node (.node (.node .nil (some ti69) (.node (.node .nil (some ylo) .nil) none .nil)) none .nil) (some ti21) (.node (.node (.node (.node .nil (some ylu) .nil) none .nil) (some ti85) (.node .nil (some yma) .nil)) none (.node (.node (.node .nil (some ylq) .nil) (some ymf) .nil) none (.node .nil (some ti245) .nil)))) none (.node (.node (.node (.node (.node .nil (some ylx) .nil) none .nil) (some ti77) .nil) none (.node .nil (some ymx) .nil)) (some ti29) (.node (.node (.node .nil (some yml) .nil) (some ti93) (.node (.node .nil (some ylj) .nil) none .nil)) none .nil))))) none (.node (.node (.node (.node (.node (.node (.node .nil (some ti128) .nil) none .nil) (some ti32) .nil) none (.node (.node .nil none (.node (.node .nil (some ylk) .nil) none .nil)) none (.node (.node (.node .nil (some ylr) .nil) (some ymi) .nil) none (.node .nil (some yl3) .nil)))) none (.node (.node (.node .nil none (.node .nil (some ymd) .nil)) none (.node .nil none (.node (.node .nil (some ylh) .nil) none .nil))) (some ti24) (.node (.node .nil (some ti88) .nil) (some ti56) (.node (.node .nil (some yme) .nil) (some yms) (.node (.node .nil (some ylg) .nil) none .nil))))) (some ti4) (.node (.node .nil (some ti20) (.node .nil none (.node .nil none (.node .nil (some yl1) .nil)))) none (.node (.node .nil (some ti44) (.node (.node (.node .nil (some yls) .nil) none .nil) (some ymy) .nil)) (some ti28) (.node .nil (some ti60) .nil)))) none (.node (.node (.node (.node (.node (.node (.node .nil (some ylz) .nil) none .nil) none .nil) (some ti34) .nil) none (.node (.node (.node .nil (some ymo) .nil) none .nil) none (.node (.node .nil (some ymh) .nil) (some ymu) (.node .nil (some yl2) .nil)))) none (.node (.node .nil (some ti42) (.node .nil (some ymz) .nil)) (some ti26) (.node (.node (.node (.node .nil (some ylt) .nil) none .nil) none .nil) (some ti58) (.node .nil (some ymr) .nil)))) none (.node (.node (.node (.node (.node .nil (some ymq) .nil) none .nil) none (.node (.node .nil (some ymk) .nil) none (.node (.node .nil (some yli) .nil) (some yl6) .nil))) (some ti22) (.node (.node (.node .nil (some ymm) .nil) none .nil) none (.node .nil (some ymt) (.node .nil (some yl0) .nil)))) none (.node (.node (.node (.node (.node .nil (some ylw) .nil) none .nil) none (.node (.node .nil (some yll) .nil) none .nil)) (some ti46) .nil) none (.node .nil (some ti62) .nil))))))

theorem yjl:envT=mkTr envL .nil:=by kernel_rfl
theorem zxq:(envL.all fun p=>Nat.ble (p.1+2) 16777216)=true:=by kernel_rfl
theorem ye0:(envL.all fun p=>ydi Tryz.prog p.1 p.2)=true:=by kernel_rfl
def yos (P:Program)(p:Nat×TI):Bool:=!p.2.eqok || (!P.eqGuardType P.depth p.1 && (match p.2.desc with | .struct _=>!P.stoodInHeld p.1|_=>true))
theorem yjn:(envL.all fun p=>yos Tryz.prog p)=true:=by kernel_rfl
theorem yjm (G:zd9):EnvOK Tryz.prog ⟨envT.get,G⟩:=yql yjl zxq ye0 fun p hp he=>by
 have h:=List.all_eq_true.1 yjn p hp;simp only[yos,he,Bool.not_true,Bool.false_or,Bool.and_eq_true,Bool.not_eq_true'] at h;refine⟨h.1,fun fs hd=>?_⟩
 have h2:=h.2;rw[hd] at h2
 simpa using h2
def zix:List AV:=[.int .i8 0,.int .i8 0,.int .i8 0,.int .i8 0,.int .i8 0,.int .i8 1,.int .i8 0,.int .i8 1,.int .i8 1,.int .i8 0,.int .i8 1,.int .i8 0,.int .i8 2,.int .i8 0,.int .i8 2,.int .i8 0,.int .i8 2,.int .i8 0,.int .i8 2,.int .i8 0,.int .i8 2,.int .i8 0,.int .i8 1,.int .i8 0,.int .i8 2,.int .i8 0,.int .i8 2,.int .i8 0,.int .i8 2,.int .i8 0,.int .i8 2,.int .i8 0,.int .i8 2,.int .i8 0,.int .i8 1,.int .i8 0,.int .i8 2,.int .i8 0,.int .i8 3,.int .i8 0,.int .i8 2,.int .i8 0,.int .i8 1,.int .i8 0,.int .i8 2,.int .i8 0,.int .i8 3,.int .i8 0,.int .i8 2,.int .i8 0,.int .i8 (-1),.int .i8 0,.int .i8 0,.int .i8 0,.int .i8 0,.int .i8 0,.int .i8 0,.int .i8 0,.int .i8 0,.int .i8 0,.int .i8 1,.int .i8 1,.int .i8 1,.int .i8 1]
def zsy:List AV:=[.int .i8 0,.int .i8 0,.int .i8 0,.int .i8 0,.int .i8 0,.int .i8 0,.int .i8 0,.int .i8 0,.int .i8 0,.int .i8 0,.int .i8 1,.int .i8 1,.int .i8 1,.int .i8 1,.int .i8 0,.int .i8 0,.int .i8 0,.int .i8 0,.int .i8 0,.int .i8 1,.int .i8 0,.int .i8 0,.int .i8 1,.int .i8 1,.int .i8 1,.int .i8 0,.int .i8 0,.int .i8 0,.int .i8 0,.int .i8 3,.int .i8 0,.int .i8 0,.int .i8 0,.int .i8 8,.int .i8 1,.int .i8 0,.int .i8 0,.int .i8 0,.int .i8 1,.int .i8 0,.int .i8 0,.int .i8 0,.int .i8 0,.int .i8 0,.int .i8 7,.int .i8 0,.int .i8 0,.int .i8 0,.int .i8 0,.int .i8 6,.int .i8 0,.int .i8 0,.int .i8 0,.int .i8 0,.int .i8 6,.int .i8 1,.int .i8 2,.int .i8 0,.int .i8 0,.int .i8 1,.int .i8 0,.int .i8 1,.int .i8 1,.int .i8 1,.int .i8 0,.int .i8 0,.int .i8 0,.int .i8 0,.int .i8 0,.int .i8 1,.int .i8 0,.int .i8 0,.int .i8 0,.int .i8 0,.int .i8 1,.int .i8 0,.int .i8 0,.int .i8 0,.int .i8 16,.int .i8 26,.int .i8 1,.int .i8 16,.int .i8 0,.int .i8 0,.int .i8 10,.int .i8 1,.int .i8 1,.int .i8 0,.int .i8 1,.int .i8 2,.int .i8 1,.int .i8 1,.int .i8 1,.int .i8 1,.int .i8 2,.int .i8 1,.int .i8 1,.int .i8 1,.int .i8 1,.int .i8 2,.int .i8 0,.int .i8 0,.int .i8 1,.int .i8 1,.int .i8 2,.int .i8 2,.int .i8 2,.int .i8 0,.int .i8 0,.int .i8 0,.int .i8 0,.int .i8 0,.int .i8 0,.int .i8 0,.int .i8 0]
def zit:List AV:=[.int .u8 123,.int .u8 65,.int .u8 66,.int .u8 67,.int .u8 68,.int .u8 69,.int .u8 70,.int .u8 71,.int .u8 72,.int .u8 73,.int .u8 125,.int .u8 74,.int .u8 75,.int .u8 76,.int .u8 77,.int .u8 78,.int .u8 79,.int .u8 80,.int .u8 81,.int .u8 82]
def yoi:zd9:=fun g=>bif Nat.beq g 0 then some zix else bif Nat.beq g 1 then some zsy else bif Nat.beq g 3 then some zit else none
def ERg:Env:=⟨envT.get,yoi⟩
abbrev DPR (f:FuncId)(args:List AV)(Q:AE→Prop):Prop:=DP Tryz.prog ERg f args Q
theorem zae:Tryz.prog.follows .mixedOrders=true:=by kernel_rfl
theorem eRg:EnvOK Tryz.prog ERg:=yjm _
abbrev i64 (n:Int):AV := .int .i64 n
abbrev retB (p:Bool→Prop):AE→Prop:=fun ae=>∃b,ae = .ret (.bool b)∧p b
abbrev retI (p:Int→Prop):AE→Prop:=fun ae=>∃n,ae = .ret (.int .i64 n)∧p n
theorem zrj {a b:Int}:(eqI a b=true)=(a=b):=by simp[eqI]
theorem yez {a b:Int}:(eqI a b=false)=¬(a=b):=by simp[eqI]
theorem yit {a b:Int}:(ltI a b=true)=(a<b):=by simp[ltI]
theorem yiu {a b:Int}:(ltI a b=false)=(b≤a):=by simp[ltI]
theorem yiw {a b:Int}:(leI a b=true)=(a≤b):=by simp[leI]
theorem yix {a b:Int}:(leI a b=false)=(b<a):=by simp[leI]
theorem zhw {n:Int}{l:Nat}:(inB n l=true)=(0≤n∧n<l):=by simp[inB]
theorem zc6 {a b n:Int}:(zdg a b n=true)=(0≤a∧a≤b∧b≤n):=by simp[zdg,and_assoc]
theorem zam {α:Type}{l:List α}{f:α→List AV}{i:Nat}(h:i<l.length):(l.map f)[((i:Int)).toNat]? = some (f l[i]):=by simp[h]
structure Ty where
 kind:Int
 p:Int
 q:Int
 vary:Bool
 pic:List UInt8
 hp:pic.length<281474976710656
abbrev Ty.cells (t:Ty):List AV:=[.int .i64 t.kind,.int .i64 t.p,.int .i64 t.q,.bool t.vary,.str t.pic]
abbrev Ty.av (t:Ty):AV := .agg t.cells
structure Vl where
 n:Int
 s:List UInt8
 hs:s.length<281474976710656
abbrev Vl.cells (v:Vl):List AV:=[.int .i64 v.n,.str v.s]
abbrev Vl.av (v:Vl):AV := .agg v.cells
abbrev zjn (ts:List Ty):AV := .rsl 5 (ts.map Ty.cells)
abbrev zaq (l:List Int):AV := .rsl 1 (l.map fun n=>[i64 n])
structure Fm where
 kind:Int
 w:Int
 d:Int
 pic:BL UInt8
abbrev Fm.cells (t:Fm):List AV:=[i64 t.kind,i64 t.w,i64 t.d,.str t.pic.l]
abbrev zrd (l:List Fm):AV := .rsl 4 (l.map Fm.cells)
structure Ins where
 op:Int
 d:Int
 a:Int
 b:Int
 t:Ty
 u:Ty
 w:Ty
 n:Int
 m:Int
 p:Int
 v:Vl
 f:BL Fm
 l:BL Int
 y:BL Ty
 size:Bool
 range:Bool
abbrev Ins.cells (i:Ins):List AV:=[i64 i.op,i64 i.d,i64 i.a,i64 i.b,i64 i.t.kind,i64 i.t.p,i64 i.t.q,.bool i.t.vary,.str i.t.pic,
 i64 i.u.kind,i64 i.u.p,i64 i.u.q,.bool i.u.vary,.str i.u.pic,i64 i.w.kind,i64 i.w.p,i64 i.w.q,.bool i.w.vary,.str i.w.pic,i64 i.n,i64 i.m,i64 i.p,i64 i.v.n,.str i.v.s,
 zrd i.f.l,zaq i.l.l,zjn i.y.l,.bool i.size,.bool i.range]
abbrev Ins.av (i:Ins):AV := .agg i.cells
abbrev zgs (l:List Ins):AV := .rsl 29 (l.map Ins.cells)
structure Bd where
 regs:Int
 ins:BL Ins
abbrev Bd.cells (b:Bd):List AV:=[i64 b.regs,zgs b.ins.l]
abbrev Bd.av (b:Bd):AV := .agg b.cells
abbrev yfj (l:List Bd):AV := .rsl 2 (l.map Bd.cells)
structure Ini where
 at_:Int
 t:Ty
 v:Vl
abbrev Ini.cells (i:Ini):List AV:=[i64 i.at_,i64 i.t.kind,i64 i.t.p,i64 i.t.q,.bool i.t.vary,.str i.t.pic,i64 i.v.n,.str i.v.s]
abbrev zi3 (l:List Ini):AV := .rsl 8 (l.map Ini.cells)
structure Fl where
 name:BL UInt8
 kind:Int
abbrev Fl.cells (f:Fl):List AV:=[.str f.name.l,i64 f.kind]
abbrev ztg (l:List Fl):AV := .rsl 2 (l.map Fl.cells)
def SbP (EP:List AV→Prop)(cs:List AV):Prop:=∃(e:List AV) (lo hi st:Int),cs=e++[i64 lo,i64 hi,i64 st]∧EP e
def RfP (EP:List AV→Prop)(cs:List AV):Prop:=∃(b u n o:Int) (p s:BL (List AV)) (t:Ty),
 cs=[i64 b,i64 u,i64 n,i64 o,.rsl 11 p.l,.rsl 14 s.l,i64 t.kind,i64 t.p,i64 t.q,.bool t.vary,.str t.pic]∧(∀x∈p.l,EP x)∧∀x∈s.l,SbP EP x
def ExD:Nat→List AV→Prop
 | 0,_=>False
 | d + 1, cs => ∃ (op : Int) (t : Ty) (v : Vl) (n : Int) (l r : BL (List AV)),
   cs=[i64 op,i64 t.kind,i64 t.p,i64 t.q,.bool t.vary,.str t.pic,i64 v.n,.str v.s,i64 n,.rsl 11 l.l,.rsl 11 r.l]∧(∀x∈l.l,ExD d x)∧∀x∈r.l,RfP (ExD d) x
def StD (d:Nat)(cs:List AV):Prop:=∃(kind no:Int) (r e:BL (List AV)) (n p c:Int) (f:BL Fm) (skip:Int) (size range:Bool),
 cs=[i64 kind,i64 no,.rsl 11 r.l,.rsl 11 e.l,i64 n,i64 p,i64 c,zrd f.l,i64 skip,.bool size,.bool range]∧(∀x∈r.l,RfP (ExD d) x)∧∀x∈e.l,ExD d x
structure Prc where
 name:BL UInt8
 parent:Int
 params:Int
 size:Int
 init:BL Ini
 body:BL (List AV)
 rets:BL Ty
 dep:Nat
 hb:∀x∈body.l,StD dep x
abbrev Prc.cells (p:Prc):List AV:=[.str p.name.l,i64 p.parent,i64 p.params,i64 p.size,zi3 p.init.l,.rsl 11 p.body.l,zjn p.rets.l]
abbrev Prc.av (p:Prc):AV := .agg p.cells
abbrev ziu (l:List Prc):AV := .rsl 7 (l.map Prc.cells)
structure Prg where
 procs:BL Prc
 static:Int
 image:BL Ini
 files:BL Fl
 conds:BL (BL UInt8)
 ctl:BL Int
abbrev Prg.cells (p:Prg):List AV:=[ziu p.procs.l,i64 p.static,zi3 p.image.l,ztg p.files.l,.rsl 1 (p.conds.l.map fun s=>[.str s.l]),zaq p.ctl.l]
abbrev Prg.av (p:Prg):AV := .agg p.cells
structure Cd where
 p:Prg
 b:BL Bd
abbrev Cd.cells (c:Cd):List AV:=[ziu c.p.procs.l,i64 c.p.static,zi3 c.p.image.l,ztg c.p.files.l,.rsl 1 (c.p.conds.l.map fun s=>[.str s.l]),zaq c.p.ctl.l,yfj c.b.l]
abbrev Cd.av (c:Cd):AV := .agg c.cells
abbrev zyh (e:Int):AV := .ifc 219 (.agg [i64 e])
abbrev retU (p:Prop):AE→Prop:=fun ae=>(ae = .ret (.tup [])∧p)∨∃e,ae = .pan (zyh e)∧e≠0
theorem za2 {α:Type}{l:List α}{f:α→List AV}{n:Int}(h:n.toNat<l.length):(l.map f)[n.toNat]? = some (f l[n.toNat]):=by simp[h]
def POK (i:Nat)(p:Prc):Prop:=(i=0→p.parent = -1)∧(i≠0→0≤p.parent∧p.parent≤(i:Int) - 1)∧p.rets.l.length≤1∧0≤p.params∧p.params≤8
def ProcsN (l:List Prc)(n:Nat):Prop:=∀(i:Nat) (h:i<l.length),i<n→POK i l[i]
abbrev zd1 (l:List Prc):Prop:=ProcsN l l.length
theorem ProcsN.succ {l:List Prc}{n:Nat}(h:ProcsN l n)(hn:n<l.length)(hp:POK n l[n]):ProcsN l (n+1):=by
 intro i hi hin;rcases Nat.lt_or_ge i n with h1|h1
 · exact h i hi h1
 · obtain rfl : i = n := by omega
   exact hp
structure Ck where
 p:Prg
 proc:Int
 ar:BL Int
 hproc:0≤proc∧proc<p.procs.l.length
 har:∀a∈ar.l,0≤a∧a<(p.procs.l.length:Int)
 hp:zd1 p.procs.l
abbrev Ck.cells (c:Ck):List AV:=[ziu c.p.procs.l,i64 c.p.static,zi3 c.p.image.l,ztg c.p.files.l,.rsl 1 (c.p.conds.l.map fun s=>[.str s.l]),zaq c.p.ctl.l,i64 c.proc,zaq c.ar.l]
abbrev Ck.av (c:Ck):AV := .rptr c.cells
theorem zz0 {d:Nat}{l:List (List AV)}{n:Int}(hl:∀x∈l,ExD d x)(h:n.toNat<l.length):∃(op:Int) (t:Ty) (v:Vl) (m:Int) (l1 r1:BL (List AV)),
 l[n.toNat]? = some [i64 op,i64 t.kind,i64 t.p,i64 t.q,.bool t.vary,.str t.pic,i64 v.n,.str v.s,i64 m,.rsl 11 l1.l,.rsl 11 r1.l]∧(∀x∈l1.l,ExD (d - 1) x)∧∀x∈r1.l,RfP (ExD (d - 1)) x:=by
 have hm:=hl _ (List.getElem_mem h);cases d with
 | zero=>exact hm.elim
 | succ d =>
   obtain⟨op,t,v,m,l1,r1,he,h1,h2⟩:=hm;exact⟨op,t,v,m,l1,r1,by rw[List.getElem?_eq_getElem h,he],h1,h2⟩
theorem zl2 {EP:List AV→Prop}{l:List (List AV)}{n:Int}(hl:∀x∈l,RfP EP x)(h:n.toNat<l.length):∃(b u m o:Int) (p s:BL (List AV)) (t:Ty),
 l[n.toNat]? = some [i64 b,i64 u,i64 m,i64 o,.rsl 11 p.l,.rsl 14 s.l,i64 t.kind,i64 t.p,i64 t.q,.bool t.vary,.str t.pic]∧(∀x∈p.l,EP x)∧∀x∈s.l,SbP EP x:=by
 obtain⟨b,u,m,o,p,s,t,he,h1,h2⟩:=hl _ (List.getElem_mem h);exact⟨b,u,m,o,p,s,t,by rw[List.getElem?_eq_getElem h,he],h1,h2⟩
theorem yi1 {n:Int}{l:Nat}:(inB n l=false)=¬(0≤n∧n<l):=by simp[inB]
theorem bz:((¬True)=False)∧(∀{n:Int} {l:Nat},(inB n l=true)=(0≤n∧n<(l:Int)))∧(∀{n:Int} {l:Nat},(inB n l=false)=¬(0≤n∧n<(l:Int)))∧(∀{p:Prop} [_i:Decidable p],(decide p=true)=p)∧(∀{p:Prop} {_i:Decidable p},decide p=false↔¬p) ∧
 (∀(a b:Bool),((a && b)=true)=(a=true∧b=true))∧(∀{x y:Bool},(x && y)=false↔x=false∨y=false)∧(∀(b:Bool),(¬b=true)=(b=false))∧(∀(b:Bool),(¬b=false)=(b=true))∧(∀(a b:Bool),((a || b)=true)=(a=true∨b=true))∧(∀{x y:Bool},(x || y)=false↔x=false∧y=false) ∧
 (∀{α:Type} {β:Type} {l:List α} (f:α→β),(List.map f l).length=l.length)∧(∀{α:Type} {a:α} {l:List α},(a::l).length=l.length+1)∧(∀{α:Type},([]:List α).length=0) ∧
 (∀{a b:Int},(eqI a b=true)=(a=b))∧(∀{a b:Int},(eqI a b=false)=¬a=b)∧(∀{a b:Int},(leI a b=true)=(a≤b))∧(∀{a b:Int},(leI a b=false)=(b<a))∧(∀{a b:Int},(ltI a b=true)=(a<b))∧(∀{a b:Int},(ltI a b=false)=(b≤a))∧(∀(b:Bool),((!b)=true)=(b=false))∧∀(b:Bool),((!b)=false)=(b=true):=
 ⟨not_true_eq_false,@zhw,@yi1,@decide_eq_true_eq,@decide_eq_false_iff_not,@Bool.and_eq_true,@Bool.and_eq_false_iff,@Bool.not_eq_true,@Bool.not_eq_false,@Bool.or_eq_true,@Bool.or_eq_false_iff,@List.length_map,@List.length_cons,@List.length_nil,@zrj,@yez,@yiw,@yix,@yit,@yiu,@Bool.not_eq_true',@Bool.not_eq_false'⟩
theorem cw {a b:Int}(h1 : -9223372036854775808≤a)(h2:a<9223372036854775808)(h:a=b):AV.int .i64 (wr .i64 a)=AV.int .i64 b:=by rw[wr64 h1 h2,h]
theorem lz:(∀{α:Type} {a:α} {l:List α},(a::l).length=l.length+1)∧(∀{α:Type} {l r:List α},(l++r).length=l.length+r.length)∧(∀{α:Type},([]:List α).length=0):=⟨@List.length_cons,@List.length_append,@List.length_nil⟩
theorem rz:(∀{n:Int} {l:Nat},(inB n l=true)=(0≤n∧n<(l:Int)))∧(∀{a b n:Int},(zdg a b n=true)=(0≤a∧a≤b∧b≤n))∧(∀{p:Prop} [_i:Decidable p],(decide p=true)=p)∧(∀(a b:Bool),((a && b)=true)=(a=true∧b=true))∧(∀(b:Bool),((!b)=true)=(b=false)) ∧
 (∀{p:Prop} {_i:Decidable p},decide p=false↔¬p)∧(∀{n m:Nat},(Nat.ble n m=true)=(n≤m))∧(∀{α:Type} {β:Type} {l:List α} (f:α→β),(List.map f l).length=l.length)∧(∀{α:Type} {a:α} {l:List α},(a::l).length=l.length+1)∧(∀{α:Type},([]:List α).length=0) ∧
 (∀{α:Type} {l r:List α},(l++r).length=l.length+r.length):=
 ⟨@zhw,@zc6,@decide_eq_true_eq,@Bool.and_eq_true,@Bool.not_eq_true',@decide_eq_false_iff_not,@Nat.ble_eq,@List.length_map,@List.length_cons,@List.length_nil,@List.length_append⟩
abbrev retD (p:Prop):AE→Prop:=fun ae=>(ae = .ret (.bool true)∧p)∨(ae = .ret (.bool false)∧¬p)
theorem DP.dec {g:FuncId}{args:List AV}{p:Prop}(h:DPR g args (retB fun b=>b=true↔p)):DPR g args (retD p):=by
 refine h.mono ?_
 rintro ae ⟨b,rfl,hb⟩
 cases b with
 | true=>exact .inl ⟨rfl,hb.1 rfl⟩
 | false=>exact .inr ⟨rfl,fun hp=>by have:=hb.2 hp;cases this⟩
end Go.Ago
namespace Go.Ago
open Go.Proofs
attribute [local irreducible] ltI leI eqI eqS shrI wr inB mmI comp DC DP DW DV
theorem ygk (x:Int):DPR 235 [i64 x] (retI fun n=>n=if x=1 then 9 else 31):=by
 refine zaf eRg zae Tryz.func235 rfl (by decide) rfl rfl ?_
 conv=>whnf
 repeat' first
  | (refine Br.split (fun h=>?_) (fun h=>?_)<;>(try simp only[bz] at h)<;>(conv=>whnf))
 all_goals exact⟨_,rfl,by split<;>omega⟩
theorem zxc (x:Int):DPR 246 [i64 x] (fun ae=>∃a b,ae = .ret (.tup [.bool a,.bool b])):=by
 refine zaf eRg zae Tryz.func246 rfl (by decide) rfl rfl ?_
 conv=>whnf
 repeat' first
  | (refine Br.split (fun h=>?_) (fun h=>?_)<;>(try simp only[bz] at h)<;>(conv=>whnf))
 all_goals exact⟨_,_,rfl⟩
theorem in_d (x lo hi:Int):DPR 100 [i64 x,i64 lo,i64 hi] (retB fun b=>b=true↔lo≤x∧x≤hi):=by
 refine zaf eRg zae Tryz.func100 rfl (by decide) rfl rfl ?_
 conv=>whnf
 repeat' first
  | (refine Br.split (fun h=>?_) (fun h=>?_)<;>(try simp only[bz] at h)<;>(conv=>whnf))
 all_goals exact⟨_,rfl,by simp;omega⟩
theorem zcz (x lo hi:Int):DPR 130 [i64 x,i64 lo,i64 hi] (retB fun b=>b=true↔lo≤x∧x≤hi):=by
 refine zaf eRg zae Tryz.func130 rfl (by decide) rfl rfl ?_
 conv=>whnf
 repeat' first
  | (refine Br.split (fun h=>?_) (fun h=>?_)<;>(try simp only[bz] at h)<;>(conv=>whnf))
 all_goals exact⟨_,rfl,by simp;omega⟩
theorem yel (t:Ty):DPR 186 [t.av] (retB fun b=>b=true↔t.kind=1∨t.kind=2):=by
 refine zaf eRg zae Tryz.func186 rfl (by decide) rfl rfl ?_
 conv=>whnf
 repeat' first
  | (refine Br.split (fun h=>?_) (fun h=>?_)<;>(try simp only[bz] at h)<;>(conv=>whnf))
 all_goals exact⟨_,rfl,by simp;omega⟩
theorem yfe (t:Ty):DPR 193 [t.av] (retB fun b=>b=true↔t.kind=1∨t.kind=2):=by
 refine zaf eRg zae Tryz.func193 rfl (by decide) rfl rfl ?_
 conv=>whnf
 repeat' first
  | (refine Br.split (fun h=>?_) (fun h=>?_)<;>(try simp only[bz] at h)<;>(conv=>whnf))
 all_goals exact⟨_,rfl,by simp;omega⟩
theorem zx1 (t:Ty):DPR 294 [t.av] (retB fun _=>True):=by
 refine zaf eRg zae Tryz.func294 rfl (by decide) rfl rfl ?_
 conv=>whnf
 repeat' first
  | (refine Br.split (fun h=>?_) (fun h=>?_)<;>(try simp only[bz] at h)<;>(conv=>whnf))
 all_goals exact⟨_,rfl,trivial⟩
theorem ycq (t:Ty):DPR 295 [t.av] (retB fun _=>True):=by
 refine zaf eRg zae Tryz.func295 rfl (by decide) rfl rfl ?_
 conv=>whnf
 repeat' ((first|refine Br.split (fun h=>?_) (fun h=>?_)<;>(try simp only[bz] at h)|refine zag (fun h=>?_) (fun h=>?_)<;>(try simp only[bz] at h))<;>conv=>whnf)
 all_goals exact⟨_,rfl,trivial⟩
theorem yal (t:Ty):DPR 296 [t.av] (retB fun _=>True):=by
 refine zaf eRg zae Tryz.func296 rfl (by decide) rfl rfl ?_
 conv=>whnf
 repeat' ((first|refine Br.split (fun h=>?_) (fun h=>?_)<;>(try simp only[bz] at h)|refine zag (fun h=>?_) (fun h=>?_)<;>(try simp only[bz] at h))<;>conv=>whnf)
 all_goals exact⟨_,rfl,trivial⟩
theorem zlj (t:Ty):DPR 187 [t.av] (retI fun e=>e=0→(t.kind=1∧t.p≤9∨t.kind=2∧t.p≤31)∧1≤t.p∧0≤t.q∧t.q≤t.p):=by
 refine zaf eRg zae Tryz.func187 rfl (by decide) rfl rfl ?_
 conv=>whnf
 repeat' ((first|refine Br.split (fun h=>?_) (fun h=>?_)<;>(try simp only[bz] at h)<;>try (exfalso;omega)|refine zag (fun h=>?_) (fun h=>?_)<;>(try simp only[bz] at h)|(refine zar rfl (ygk _) ?_;rintro _ ⟨n,rfl,hn⟩<;>refine⟨_,rfl,?_⟩)|refine And.intro (a:=zaw _=true) (by kernel_rfl) (LzK.e ?_))<;>conv=>whnf)
 all_goals exact⟨_,rfl,by(try split at hn)<;>omega⟩
theorem zmp:∀{l₁ l₂:List (Int×AV)},RisK l₁→RisK l₂→(∀k x,(k,x)∈l₁↔(k,x)∈l₂)→l₁=l₂
 | [],[],_,_,_=>rfl
 | [],(b,y)::s,_,_,h=>by have:=(h b y).2 (by simp);simp at this
 | (a,x)::r,[],_,_,h=>by have:=(h a x).1 (by simp);simp at this
 | (a, x) :: r, (b, y) :: s, h1, h2, h => by
   obtain⟨a1,a2⟩:=ris_cons.1 h1;obtain⟨b1,b2⟩:=ris_cons.1 h2;have hab:a=b∧x=y:=by
    rcases List.mem_cons.1 ((h a x).1 (by simp)) with e|ha
    · cases e;exact⟨rfl,rfl⟩
    · have hba := b1 _ _ ha
      rcases List.mem_cons.1 ((h b y).2 (by simp)) with e|hb
      · cases e;exact⟨rfl,rfl⟩
      · have:=a1 _ _ hb;omega
   obtain⟨rfl,rfl⟩:=hab;rw[zmp a2 b2 fun k z=>⟨fun hk=>by
    rcases List.mem_cons.1 ((h k z).1 (by simp[hk])) with e|hk'
    · cases e;have:=a1 _ _ hk;omega
    · exact hk',fun hk=>by
    rcases List.mem_cons.1 ((h k z).2 (by simp[hk])) with e|hk'
    · cases e;have:=b1 _ _ hk;omega
    · exact hk'⟩]
def layK (base:List (Int×AV)):List (Int×AV)→List (Int×AV)
 | []=>base
 | (k,y)::l=>layK (insK base k y) l
theorem zdr:∀{l base:List (Int×AV)},RisK base→RisK (layK base l)
 | [],_,h=>h
 | (k,y)::l,base,h=>zdr (l:=l) (zfw h)
theorem ziy {g:Int→AV}:∀{l base:List (Int×AV)},RisK base→(∀p∈l,p.2=g p.1)→∀j x,(j,x)∈layK base l↔(x=g j∧∃y,(j,y)∈l)∨((j,x)∈base∧∀y,(j,y)∉l)
 | [],base,_,_,j,x=>by simp[layK]
 | (k, y) :: l, base, hb, hg, j, x => by
   have hy:y=g k:=hg (k,y) (by simp)
   rw[layK,ziy (zfw hb) (fun p hp=>hg p (by simp[hp])),zc2 hb]
   constructor
   · rintro (⟨h1, z, h2⟩ | ⟨h1, h2⟩)
     · exact .inl ⟨h1,z,by simp[h2]⟩
     · rcases h1 with ⟨rfl, rfl⟩ | ⟨h1, h3⟩
       · exact .inl ⟨hy,x,by simp⟩
       · refine .inr ⟨h1, fun z hz => ?_⟩
         rcases List.mem_cons.1 hz with e|hz
         · cases e;exact h3 rfl
         · exact h2 z hz
   · rintro (⟨h1, z, h2⟩ | ⟨h1, h2⟩)
     · by_cases hm : ∃ z, (j, z) ∈ l
       · exact .inl ⟨h1,hm⟩
       · refine .inr ⟨.inl ?_, fun z hz => hm ⟨z, hz⟩⟩
         rcases List.mem_cons.1 h2 with e|hz
         · cases e;exact⟨rfl,by rw[h1,hy]⟩
         · exact absurd ⟨z,hz⟩ hm
     · refine .inr ⟨.inr ⟨h1, fun e => ?_⟩, fun z hz => h2 z (by simp [hz])⟩
       subst e;exact h2 y (by simp)
def zda (es l:List (Int×AV))(g:Int→AV):List (Int×AV):=(es.filter fun p=>!l.any fun q=>decide (q.1=p.1)).map fun p=>(p.1,g p.1)
theorem mem_doneK {es l:List (Int×AV)}{g:Int→AV}{j:Int}:(∃y,(j,y)∈zda es l g)↔(∃x,(j,x)∈es)∧∀y,(j,y)∉l:=by
 unfold zda
 constructor
 · rintro ⟨y, hy⟩
   obtain⟨⟨a,x⟩,hp,e⟩:=List.mem_map.1 hy;cases e;obtain⟨h1,h2⟩:=List.mem_filter.1 hp;refine⟨⟨x,h1⟩,fun y hy=>?_⟩
   simp only[Bool.not_eq_true',List.any_eq_false,decide_eq_true_eq] at h2;exact h2 _ hy rfl
 · rintro ⟨⟨x, hx⟩, hl⟩
   refine⟨g j,List.mem_map.2 ⟨(j,x),List.mem_filter.2 ⟨hx,?_⟩,rfl⟩⟩;simp only[Bool.not_eq_true',List.any_eq_false,decide_eq_true_eq];intro q hq e;exact hl q.2 (by rw[← e];exact hq)
theorem zpr {es l:List (Int×AV)}{g:Int→AV}:∀p∈zda es l g,p.2=g p.1:=by
 intro p hp;obtain⟨q,_,rfl⟩:=List.mem_map.1 hp;rfl
theorem zfp {es:List (Int×AV)}{g:Int→AV}:zda es es g=[]:=by
 refine List.eq_nil_iff_forall_not_mem.2 fun p hp=>?_
 obtain⟨⟨x,hx⟩,h⟩:=mem_doneK.1 ⟨p.2,hp⟩;exact h x hx
theorem zho {base es l:List (Int×AV)}{g:Int→AV}(hb:RisK base){k:Int}{x:AV}(hl:∀p∈l,p∈es)(h:(k,x)∈l):insK (layK base (zda es l g)) k (g k)=layK base (zda es (zee l k) g):=by
 refine zmp (zfw (zdr hb)) (zdr hb) fun j y=>?_
 rw[zc2 (zdr hb),ziy hb zpr,ziy hb zpr,mem_doneK,mem_doneK];have hdn:∀(y:AV),(∀z,(j,z)∉zda es l g)↔¬((∃x,(j,x)∈es)∧∀y,(j,y)∉l):=fun _=>by rw[← mem_doneK (g:=g)];simp
 have hdn2:(∀z,(j,z)∉zda es (zee l k) g)↔¬((∃x,(j,x)∈es)∧∀y,(j,y)∉zee l k):=by rw[← mem_doneK (g:=g)];simp
 rw[hdn y,hdn2]
 by_cases hj:j=k
 · subst hj
   have h1:∀y,(j,y)∉zee l j:=fun y hy=>(mem_lessK.1 hy).2 rfl
   have h2:∃x,(j,x)∈es:=⟨x,hl _ h⟩
   constructor
   · rintro (⟨_, rfl⟩ | ⟨_, h3⟩)
     · exact .inl ⟨rfl,h2,h1⟩
     · exact absurd rfl h3
   · rintro (⟨h3, _⟩ | ⟨_, h3⟩)
     · exact .inl ⟨rfl,h3⟩
     · exact absurd ⟨h2,h1⟩ h3
 · have h1 : (∀ y, (j, y) ∉ zee l k) ↔ ∀ y, (j, y) ∉ l := ⟨fun h4 y hy => h4 y (mem_lessK.2 ⟨hy, hj⟩), fun h4 y hy => h4 y (mem_lessK.1 hy).1⟩
   rw[h1]
   constructor
   · rintro (⟨h3, _⟩ | ⟨h3, _⟩)
     · exact absurd h3 hj
     · exact h3
   · intro h3;exact .inr ⟨h3,hj⟩
abbrev zal (b:Bool)(l:List Int):List AV:=[.bool b,zaq l]
abbrev zaz (M:List (Int×AV))(b:Bool)(l:List Int):AV := .agg [.rmp M,.bool b,zaq l]
theorem yag {M:List (Int×AV)}{g:Int→AV}(hM:RisK M):layK [] (zda M [] g)=M.map fun p=>(p.1,g p.1):=by
 have hn:RisK ([]:List (Int×AV)):=by simp[RisK]
 have hr:RisK (M.map fun p=>(p.1,g p.1)):=by unfold RisK at hM ⊢;rw[List.map_map];exact hM
 refine zmp (zdr hn) hr fun k x=>?_
 rw[ziy hn zpr,mem_doneK]
 constructor
 · rintro (⟨rfl, ⟨y, hy⟩, _⟩ | ⟨h, _⟩)
   · exact List.mem_map.2 ⟨(k,y),hy,rfl⟩
   · cases h
 · intro h
   obtain⟨⟨a,y⟩,hp,e⟩:=List.mem_map.1 h;cases e;exact .inl ⟨rfl,⟨y,hp⟩,fun y=>by simp⟩
def zjj (v:AV):Prop:=∃b l,v = .agg (zal b l)
theorem yhu {ρ:Nat→Nat}{v:AV}(h:zjj v):v.r1 ρ=v:=by obtain⟨b,l,rfl⟩:=h;rfl
theorem yhv {n:Nat}{v:AV}(h:zjj v):v.l1 n=true:=by obtain⟨b,l,rfl⟩:=h;rfl
theorem zyv {H:zah}{n:Nat}{v:AV}(h:zjj v):snap H (n+2) v=some v:=by obtain⟨b,l,rfl⟩:=h;rfl
def zhy (es:List (Int×AV)):Prop:=∀p∈es,zjj p.2
theorem zgc {es es':List (Int×AV)}{ρ:Nat→Nat}(he:es=es')(h:zhy es'):AObj.mp es=(AObj.mp es').ren ρ:=by
 subst he;show AObj.mp es=AObj.mp (es.map fun p=>(p.1,p.2.r1 ρ))
 congr 1
 conv=>lhs;rw[← List.map_id es]
 refine List.map_congr_left fun p hp=>?_
 obtain⟨a,b⟩:=p;have:=yhu (ρ:=ρ) (h _ hp);dsimp only at this;simp[this]
theorem zkl {es:List (Int×AV)}{n:Nat}(h:zhy es):(es.all fun p=>p.2.l1 n)=true:=List.all_eq_true.2 fun p hp=>yhv (h p hp)
theorem yh1 {H:zah}{n:Nat}:∀{es:List (Int×AV)},zhy es→mapO (entK (snap H (n+2))) es=some es
 | [],_=>rfl
 | (a, v) :: l, h => by
   have h1:=zyv (H:=H) (n:=n) (h (a,v) (by simp))
   have h2:=yh1 (H:=H) (n:=n) (es:=l) fun p hp=>h p (by simp[hp])
   simp only[mapO,entK];dsimp only at h1;rw[h1];dsimp only;rw[h2]
theorem za8 {es l base:List (Int×AV)}{g:Int→AV}(hb:RisK base)(h:zhy base)(hg:∀k,zjj (g k)):zhy (layK base (zda es l g)):=by
 rintro⟨j,x⟩ hp
 rcases(ziy hb zpr j x).1 hp with⟨rfl,_⟩|⟨hp,_⟩
 · exact hg j
 · exact h _ hp
theorem zbs:RisK []:=by simp[RisK]
theorem zbm:zhy []:=fun p hp=>by cases hp
theorem zvk {f:AV→Option AV}{k:Int}{v w:AV}(hv:f v=some w):∀{es es':List (Int×AV)},mapO (entK f) es=some es'→mapO (entK f) (insK es k v)=some (insK es' k w)
 | [], _, h => by
   simp only[mapO,Option.some.injEq] at h;subst h;simp[insK,mapO,entK,hv]
 | (a, x) :: l, es', h => by
   simp only[mapO] at h;cases hx:entK f (a,x) with
   | none=>rw[hx] at h;cases h
   | some y =>
     rw[hx] at h;dsimp only at h;cases hl:mapO (entK f) l with
     | none=>rw[hl] at h;cases h
     | some ys =>
       rw[hl] at h;cases h;obtain⟨c,z⟩:=y;have hc:c=a:=by
        unfold entK at hx;dsimp only at hx;cases hfx:f x with
        | none=>rw[hfx] at hx;cases hx
        | some u=>rw[hfx] at hx;cases hx;rfl
       subst hc;simp only[insK]
       by_cases h1:c<k
       · rw [decide_eq_true h1]
         simp only[mapO];rw[hx,zvk hv hl]
       · rw [decide_eq_false h1]
         dsimp only;have hkv:entK f (k,v)=some (k,w):=by unfold entK;dsimp only;rw[hv]
         by_cases h2:c=k
         · rw [decide_eq_true h2]
           simp only[mapO];rw[hkv,hl]
         · rw [decide_eq_false h2]
           simp only[mapO];rw[hkv,hx,hl]
theorem zvl {α β:Type}{f:α→Option β}{x:α}{l:List α}{y:β}{r:List β}(h:f x=some y)(h':mapO f l=some r):mapO f (x::l)=some (y::r):=by simp[mapO,h,h']
theorem zo0 {H:zah}{n:Nat}{cs ds:List AV}(h:mapO (snap H n) cs=some ds):snap H (n+1) (.agg cs)=some (.agg ds):=by simp only[snap,h]
theorem zud {H:zah}{n nm:Nat}{es:List (Int×AV)}{k:Int}{v w:AV}(h:H.get nm=some (.mp (insK es k v)))(he:zhy es)(hv:snap H (n+2) v=some w):snap H (n+3) (.mpo nm)=some (.rmp (insK es k w)):=by
 rw[snap];rw[h];dsimp only;rw[zvk hv (yh1 he)]
theorem zuc {H:zah}{n k:Nat}{es:List (Int×AV)}(h:H.get k=some (.mp es))(he:zhy es):snap H (n+3) (.mpo k)=some (.rmp es):=by
 rw[snap];rw[h];dsimp only;rw[yh1 he]
theorem zui (M:List (Int×AV))(hM:RisK M)(b:Bool)(l:List Int)(r at_:Int)(g:Int→AV)(b2:Bool)(l2:List Int)(h0:DPR 170 [.agg (zal b l),i64 r] (fun ae=>ae = .ret (.agg (zal b2 l2))))
 (hv:zhy M)(hg:∀k,zjj (g k))(h:∀k x,(k,x)∈M→DPR 170 [x,i64 r] (fun ae=>ae = .ret (g k))) :
 DPR 116 [zaz M b l,i64 r,i64 at_] (fun ae=>ae = .ret (zaz (insK (M.map fun p=>(p.1,g p.1)) at_ (.agg (zal false [r]))) b2 l2)):=by
 refine zaf eRg zae Tryz.func116 rfl (by decide) rfl rfl ?_
 conv=>whnf
 repeat' first
  | (refine zaa rfl (h0) ?_;rintro _ rfl<;>conv=>whnf)
 refine zfr eRg zae M 12 18 19 20 [1,2,6,7,18] [2] 200 (fun _=>[]) (fun l=>[(2,.mp (layK [] (zda M l g)))]) [] hM rfl rfl rfl rfl rfl rfl rfl rfl rfl rfl ?_
 conv=>whnf
 refine⟨?_,fun l=>?_,?_,fun l hl1 hl2 k x hkx=>?_⟩
 · conv => whnf
   (repeat' first|exact True.intro|rfl|exact zgc (by first|rfl|exact(congrArg (layK []) zfp).symm) (za8 zbs zbm hg)|exact zkl (za8 zbs zbm hg)|apply And.intro)
 · conv => whnf
   rfl
 · skip
   conv=>whnf
   generalize hg2:snap _ 20 _=rr
   obtain rfl:=hg2.symm.trans (zo0 (n:=19) (zvl (zud (n:=16) (w := .agg (zal false [r])) rfl (za8 zbs zbm hg) rfl) rfl))
   conv=>whnf
   rw[yag hM]
 · obtain ⟨b1, l1, rfl⟩ := hv (k, x) (hl2 _ hkx)
   obtain⟨b3,l3,hg3⟩:=hg k;have hw:=h k _ (hl2 _ hkx);rw[hg3] at hw;have hst:=zho (g:=g) zbs hl2 hkx;rw[hg3] at hst
   conv=>whnf
   repeat' ((first|refine Rq.mk (b:=chk3 _ _ _ _ _ _) (by kernel_rfl) ?_|(refine zar rfl (hw) ?_;rintro _ rfl<;>refine⟨_,rfl,?_⟩)|refine And.intro (a:=zaw _=true) (by kernel_rfl) (LzK.e ?_))<;>conv=>whnf)
   refine⟨rfl,rfl,rfl,?_⟩
   conv=>whnf
   (repeat' first|exact True.intro|rfl|exact zgc (by exact hst ) (za8 zbs zbm hg)|exact zkl (za8 zbs zbm hg)|apply And.intro)
theorem ydr (M:List (Int×AV))(hM:RisK M)(b:Bool)(r at_:Int)(g:Int→AV)(b2:Bool)(l2:List Int)(h0:DPR 170 [.agg [.bool b,.nils],i64 r] (fun ae=>ae = .ret (.agg (zal b2 l2))))
 (hv:zhy M)(hg:∀k,zjj (g k))(h:∀k x,(k,x)∈M→DPR 170 [x,i64 r] (fun ae=>ae = .ret (g k))) :
 DPR 116 [.agg [.rmp M,.bool b,.nils],i64 r,i64 at_] (fun ae=>ae = .ret (zaz (insK (M.map fun p=>(p.1,g p.1)) at_ (.agg (zal false [r]))) b2 l2)):=by
 refine zaf eRg zae Tryz.func116 rfl (by decide) rfl rfl ?_
 conv=>whnf
 repeat' first
  | (refine zaa rfl (h0) ?_;rintro _ rfl<;>conv=>whnf)
 refine zfr eRg zae M 12 18 19 20 [1,2,6,7,18] [2] 200 (fun _=>[]) (fun l=>[(2,.mp (layK [] (zda M l g)))]) [] hM rfl rfl rfl rfl rfl rfl rfl rfl rfl rfl ?_
 conv=>whnf
 refine⟨?_,fun l=>?_,?_,fun l hl1 hl2 k x hkx=>?_⟩
 · conv => whnf
   (repeat' first|exact True.intro|rfl|exact zgc (by first|rfl|exact(congrArg (layK []) zfp).symm) (za8 zbs zbm hg)|exact zkl (za8 zbs zbm hg)|apply And.intro)
 · conv => whnf
   rfl
 · skip
   conv=>whnf
   generalize hg2:snap _ 20 _=rr
   obtain rfl:=hg2.symm.trans (zo0 (n:=19) (zvl (zud (n:=16) (w := .agg (zal false [r])) rfl (za8 zbs zbm hg) rfl) rfl))
   conv=>whnf
   rw[yag hM]
 · obtain ⟨b1, l1, rfl⟩ := hv (k, x) (hl2 _ hkx)
   obtain⟨b3,l3,hg3⟩:=hg k;have hw:=h k _ (hl2 _ hkx);rw[hg3] at hw;have hst:=zho (g:=g) zbs hl2 hkx;rw[hg3] at hst
   conv=>whnf
   repeat' ((first|refine Rq.mk (b:=chk3 _ _ _ _ _ _) (by kernel_rfl) ?_|(refine zar rfl (hw) ?_;rintro _ rfl<;>refine⟨_,rfl,?_⟩)|refine And.intro (a:=zaw _=true) (by kernel_rfl) (LzK.e ?_))<;>conv=>whnf)
   refine⟨rfl,rfl,rfl,?_⟩
   conv=>whnf
   (repeat' first|exact True.intro|rfl|exact zgc (by exact hst ) (za8 zbs zbm hg)|exact zkl (za8 zbs zbm hg)|apply And.intro)
end Go.Ago
